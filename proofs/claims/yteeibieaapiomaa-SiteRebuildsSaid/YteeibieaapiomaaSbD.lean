import Derived.Test.YteeibieaapiomaaSbC
/- SStr -/
/- A Site: names among names. -/
namespace Go.Proofs.Yteeibieaapiomaa.D
open Go Go.Z Go.Proofs
set_option linter.unusedVariables false
def nmsC (l : List ByteArray) : List Value := l.map (fun s => .string s)
theorem nmsC_len (l : List ByteArray) : (nmsC l).length = l.length * 1 := by simp [nmsC]
theorem nmsC_one (l : List ByteArray) : ∀ u ∈ nmsC l, u.oneCell' = true := by
  intro u hu
  obtain ⟨s, _, rfl⟩ := List.mem_map.1 hu
  rfl
def eb : ByteArray := ⟨#[]⟩
theorem nmsC_get (l : List ByteArray) (i : Nat) (h : i < l.length) : (nmsC l)[i]? = some (.string (l.getD i eb)) := by
  simp [nmsC, List.getElem?_map, List.getElem?_eq_getElem h, List.getD_eq_getElem?_getD]
def NS (w : World) (v : Value) (l : List ByteArray) : Prop := RdS w 9 1 v l.length (nmsC l)
theorem NS.no {w w' : World} {v : Value} {l : List ByteArray} (h : NS w v l) (hc : Chg w w' No) : NS w' v l := RdS.no h hc
theorem NS.form {w : World} {v : Value} {l : List ByteArray} (h : NS w v l) : ∃ A c, v = .slice A l.length c ∧ l.length ≤ c := RdS.form h
def memB (x : ByteArray) (l : List ByteArray) : Bool := l.any (fun y => decide (y = x))
theorem memB_iff {x : ByteArray} {l : List ByteArray} : memB x l = true ↔ x ∈ l := by
  unfold memB
  rw [List.any_eq_true]
  exact ⟨fun ⟨y, h1, h2⟩ => by rw [decide_eq_true_eq] at h2; exact h2 ▸ h1, fun h => ⟨x, h, by simp⟩⟩
theorem memB_no {x : ByteArray} {l : List ByteArray} (h : ¬ x ∈ l) : memB x l = false := by
  rcases hb : memB x l with _ | _
  · rfl
  · exact absurd (memB_iff.1 hb) h
theorem mem_at {l : List ByteArray} {i : Nat} (h : i < l.length) : l.getD i eb ∈ l := getD_mem h
theorem sIndex_calls {w : World} {v : Value} {l : List ByteArray} (h : NS w v l) (hl : l.length ≤ 1000000) (x : ByteArray) : Calls Try.prog 108 [v, .string x].toArray w fun e w' => (∃ z : Int, e = .returned (.int .i64 z) ∧ (0 ≤ z ↔ x ∈ l)) ∧ w' = w := by
  obtain ⟨A, c, rfl, hc⟩ := h.form
  refine calls_zc (n := 19) (f := 108) (fn := Try.f108) Try.func108 rfl rfl (by simp) ?_
  refine zc_seq ?_
  refine zc_region ?_
  refine zl_pureL rfl ?_
  refine zl_nil ?_
  refine zk_seq ?_
  iterate 2 (refine zc_seq ?_)
  refine zc_region ?_
  refine zl_pureL rfl ?_
  refine z_len want_none (by decide) rfl ?_
  refine zl_pureL rfl ?_
  refine zl_nil ?_
  refine zk_seq ?_
  refine zc_block ?_
  refine zc_loop (ι := Nat) (fun k => [(0, .slice A l.length c), (1, .string x), (7, .int .i64 l.length), (8, .int .i64 k)]) (fun _ => w) (fun k => k ≤ l.length ∧ ∀ j, j < k → l.getD j eb ≠ x) (fun k => l.length - k) 0 ⟨Nat.zero_le _, fun j hj => absurd hj (Nat.not_lt_zero _)⟩ ?_ ?_ ?_
  · rfl
  · exact ⟨rfl, rfl, rfl, rfl, trivial⟩
  rintro k ⟨hk, hno⟩
  by_cases hlt : k < l.length
  · obtain ⟨b, o, c', hv, _, hcc⟩ := RdS.some h (by omega)
    cases hv
    have hcell := hcc k _ (nmsC_get l k hlt)
    refine zc_seq ?_
    refine zc_region ?_
    refine z_cmpB (r := true) want_none (by decide) rfl rfl rfl (iff_of_true rfl (by omega)) ?_
    refine zl_nil ?_
    refine zk_seq ?_
    refine zc_seq ?_
    refine zc_true rfl ?_
    refine zc_skip ?_
    refine zk_seq ?_
    refine zc_seq ?_
    refine zc_block ?_
    refine zc_seq ?_
    refine zc_region ?_
    iterate 2 (refine zl_pureL rfl ?_)
    refine zl_nil ?_
    refine zk_seq ?_
    refine zc_seq ?_
    refine zc_region ?_
    iterate 3 (refine zl_pureL rfl ?_)
    refine z_ia want_none (by decide) rfl rfl (by omega) (by omega) ?_
    refine z_load1 (by first | exact want_none | exact want_L rfl) (by decide) rfl (cell_at hcell (by omega)) ?_
    refine z_eqS (by first | exact want_none | exact want_L rfl) (by decide) rfl rfl (fun he => ?_) (fun he => ?_)
    · refine zl_nil ?_
      refine zk_seq ?_
      refine zc_true rfl ?_
      refine zc_seq ?_
      refine zc_region ?_
      iterate 2 (refine zl_pureL rfl ?_)
      refine zl_nil ?_
      refine zk_seq ?_
      refine zc_ret ?_
      refine zk_ret_block ?_
      iterate 2 (refine zk_ret_then ?_)
      refine zk_ret_block ?_
      refine zk_ret_then ?_
      exact zk_ret1 (.inr rfl) rfl rfl ⟨⟨_, rfl, iff_of_true (by omega) (by rw [he]; exact mem_at hlt)⟩, rfl⟩
    · refine zl_nil ?_
      refine zk_seq ?_
      refine zc_false rfl ?_
      refine zc_skip ?_
      refine zk_norm_block ?_
      refine zk_seq ?_
      refine zc_region ?_
      refine z_add want_none (by decide) rfl rfl (by omega) (by omega) ?_
      refine zl_pureL rfl ?_
      refine zl_nil ?_
      exact zk_loop (k + 1) ⟨by omega, fun j hj => by
        by_cases hjk : j = k
        · subst hjk; exact fun h' => he h'.symm
        · exact hno j (by omega)⟩ (by omega) rfl ⟨rfl, rfl, rfl, get_int rfl (by simp), trivial⟩
  · refine zc_seq ?_
    refine zc_region ?_
    refine z_cmpB (r := false) want_none (by decide) rfl rfl rfl (iff_of_false Bool.false_ne_true (by omega)) ?_
    refine zl_nil ?_
    refine zk_seq ?_
    refine zc_seq ?_
    refine zc_false rfl ?_
    refine zc_exit ?_
    iterate 2 (refine zk_exit_then ?_)
    refine zk_exit_block ?_
    refine zk_seq ?_
    refine zc_seq ?_
    refine zc_region ?_
    refine zl_pureL rfl ?_
    refine zl_nil ?_
    refine zk_seq ?_
    refine zc_ret ?_
    refine zk_ret1 (.inr rfl) rfl rfl ⟨⟨_, rfl, iff_of_false (by omega) (fun hm => ?_)⟩, rfl⟩
    obtain ⟨j, hj, hje⟩ := List.getElem_of_mem hm
    exact hno j (by omega) (by rw [List.getD_eq_getElem?_getD, List.getElem?_eq_getElem hj]; exact hje)
theorem sContains_calls {w : World} {v : Value} {l : List ByteArray} (h : NS w v l) (hl : l.length ≤ 1000000) (x : ByteArray) : Calls Try.prog 97 [v, .string x].toArray w fun e w' => e = .returned (.bool (memB x l)) ∧ w' = w := by
  obtain ⟨A, c, rfl, hc⟩ := h.form
  refine calls_zc (n := 9) (f := 97) (fn := Try.f97) Try.func97 rfl rfl (by simp) ?_
  refine zc_seq ?_
  refine zc_region ?_
  refine zl_pureL rfl ?_
  refine zl_nil ?_
  refine zk_seq ?_
  refine zc_seq ?_
  refine zc_region ?_
  iterate 2 (refine zl_pureL rfl ?_)
  refine zl_call (by first | exact want_none | exact want_L rfl) rfl (by decide) rfl (sIndex_calls h hl x) ?_
  rintro _ u ⟨⟨z, rfl, hz⟩, hu⟩
  obtain rfl := hu.symm
  refine ⟨_, rfl, ?_⟩
  by_cases h0 : 0 ≤ z
  · rw [memB_iff.2 (hz.1 h0)]
    refine z_cmpB (r := true) want_none (by decide) rfl rfl rfl (iff_of_true rfl (by omega)) ?_
    refine zl_pureL rfl ?_
    refine zl_nil ?_
    refine zk_seq ?_
    refine zc_ret ?_
    exact zk_ret1 (.inr rfl) rfl rfl ⟨rfl, rfl⟩
  · rw [memB_no (fun hm => h0 (hz.2 hm))]
    refine z_cmpB (r := false) want_none (by decide) rfl rfl rfl (iff_of_false Bool.false_ne_true (by omega)) ?_
    refine zl_pureL rfl ?_
    refine zl_nil ?_
    refine zk_seq ?_
    refine zc_ret ?_
    exact zk_ret1 (.inr rfl) rfl rfl ⟨rfl, rfl⟩
def isE (e : Ent) (l : List ByteArray) : Bool := decide (e.n ≠ 0 ∧ e.sp = 1) && memB e.nm l
theorem sEis_calls {w : World} {v : Value} {l : List ByteArray} (h : NS w v l) (hl : l.length ≤ 1000000) (e : Ent) : Calls Try.prog 75 [.agg #[.int .i64 e.n, .int .i64 e.sp, .string e.nm], v].toArray w fun x w' => x = .returned (.bool (isE e l)) ∧ Chg w w' No := by
  obtain ⟨A, c, rfl, hc⟩ := h.form
  unfold isE
  refine calls_zc (n := 19) (f := 75) (fn := Try.f75) Try.func75 rfl rfl (by simp) ?_
  refine zc_seq ?_
  refine zc_region ?_
  refine z_box (by first | exact want_none | exact want_L rfl) (by decide) rfl (fun w1 b1 hN1 => ?_)
  have hb1 : Blk w1 b1 74 [.int .i64 e.n, .int .i64 e.sp, .string e.nm] := hN1.blk
  by_cases h0 : e.n = 0
  · rw [decide_eq_false (show ¬ (e.n ≠ 0 ∧ e.sp = 1) from fun hh => hh.1 h0), Bool.false_and]
    refine zl_pureL rfl ?_
    refine zl_nil ?_
    refine zk_seq ?_
    refine zc_seq ?_
    refine zc_region ?_
    refine z_fa want_none (by decide) rfl ?_
    refine z_loadB want_none (by decide) rfl (by assumption) (by rfl) ?_
    refine z_cmpB (r := false) want_none (by decide) rfl rfl rfl (iff_of_false Bool.false_ne_true (by omega)) ?_
    refine zl_pureL rfl ?_
    iterate 3 (refine zl_skip rfl ?_)
    iterate 3 (refine zl_pureL rfl ?_)
    iterate 3 (refine zl_skip rfl ?_)
    iterate 2 (refine zl_pureL rfl ?_)
    refine zl_nil ?_
    refine zk_seq ?_
    refine zc_ret ?_
    exact zk_ret1 (.inr rfl) rfl rfl ⟨rfl, hN1.chg⟩
  by_cases h1 : e.sp = 1
  · rw [decide_eq_true (show e.n ≠ 0 ∧ e.sp = 1 from ⟨h0, h1⟩), Bool.true_and]
    refine zl_pureL rfl ?_
    refine zl_nil ?_
    refine zk_seq ?_
    refine zc_seq ?_
    refine zc_region ?_
    refine z_fa want_none (by decide) rfl ?_
    refine z_loadB want_none (by decide) rfl (by assumption) (by rfl) ?_
    refine z_cmpB (r := true) want_none (by decide) rfl rfl rfl (iff_of_true rfl (by omega)) ?_
    refine zl_pureL rfl ?_
    refine z_fa (want_L rfl) (by decide) rfl ?_
    refine z_loadB (want_L rfl) (by decide) rfl (by assumption) (by rfl) ?_
    refine z_cmpB (r := true) (want_L rfl) (by decide) rfl rfl rfl (iff_of_true rfl (by omega)) ?_
    iterate 3 (refine zl_pureL rfl ?_)
    refine z_fa (want_L rfl) (by decide) rfl ?_
    refine z_loadB (want_L rfl) (by decide) rfl (by assumption) (by rfl) ?_
    refine zl_call (by first | exact want_none | exact want_L rfl) rfl (by decide) rfl (sContains_calls (h.no hN1.chg) hl e.nm) ?_
    rintro _ u ⟨rfl, hu⟩
    obtain rfl := hu.symm
    refine ⟨_, rfl, ?_⟩
    cases memB e.nm l
    · iterate 2 (refine zl_pureL rfl ?_)
      refine zl_nil ?_
      refine zk_seq ?_
      refine zc_ret ?_
      exact zk_ret1 (.inr rfl) rfl rfl ⟨rfl, hN1.chg⟩
    · iterate 2 (refine zl_pureL rfl ?_)
      refine zl_nil ?_
      refine zk_seq ?_
      refine zc_ret ?_
      exact zk_ret1 (.inr rfl) rfl rfl ⟨rfl, hN1.chg⟩
  · rw [decide_eq_false (show ¬ (e.n ≠ 0 ∧ e.sp = 1) from fun hh => h1 hh.2), Bool.false_and]
    refine zl_pureL rfl ?_
    refine zl_nil ?_
    refine zk_seq ?_
    refine zc_seq ?_
    refine zc_region ?_
    refine z_fa want_none (by decide) rfl ?_
    refine z_loadB want_none (by decide) rfl (by assumption) (by rfl) ?_
    refine z_cmpB (r := true) want_none (by decide) rfl rfl rfl (iff_of_true rfl (by omega)) ?_
    refine zl_pureL rfl ?_
    refine z_fa (want_L rfl) (by decide) rfl ?_
    refine z_loadB (want_L rfl) (by decide) rfl (by assumption) (by rfl) ?_
    refine z_cmpB (r := false) (want_L rfl) (by decide) rfl rfl rfl (iff_of_false Bool.false_ne_true (by omega)) ?_
    iterate 3 (refine zl_pureL rfl ?_)
    iterate 3 (refine zl_skip rfl ?_)
    iterate 2 (refine zl_pureL rfl ?_)
    refine zl_nil ?_
    refine zk_seq ?_
    refine zc_ret ?_
    exact zk_ret1 (.inr rfl) rfl rfl ⟨rfl, hN1.chg⟩
section
variable {w w' : World} {s : Nat} {q : SP} {E : List Ent} {I : List Bool} {m : ByteArray → Int} {N : List ND} {f : Bool}
def someM (m : ByteArray → Int) (l : List ByteArray) : Prop := ∃ k ∈ l, 0 < m k
theorem sSome_calls (h : IsS w s q E I m N f) {v : Value} {l : List ByteArray} (hN : NS w v l) (hl : l.length ≤ 1000000) : Calls Try.prog 74 [.pointer (some ⟨s, 0, none⟩), v].toArray w fun x w' => (∃ q, x = .returned (.bool q) ∧ (q = true ↔ someM m l)) ∧ w' = w := by
  obtain ⟨A, c, rfl, hc⟩ := hN.form
  have hb := h.blk
  refine calls_zc (n := 21) (f := 74) (fn := Try.f74) Try.func74 rfl rfl (by simp) ?_
  refine zc_seq ?_
  refine zc_region ?_
  refine zl_pureL rfl ?_
  refine zl_nil ?_
  refine zk_seq ?_
  iterate 2 (refine zc_seq ?_)
  refine zc_region ?_
  refine zl_pureL rfl ?_
  refine z_len want_none (by decide) rfl ?_
  refine zl_pureL rfl ?_
  refine zl_nil ?_
  refine zk_seq ?_
  refine zc_block ?_
  refine zc_loop (ι := Nat) (fun k => [(0, .pointer (some ⟨s, 0, none⟩)), (7, .slice A l.length c), (8, .int .i64 l.length), (9, .int .i64 k)]) (fun _ => w) (fun k => k ≤ l.length ∧ ∀ j, j < k → ¬ 0 < m (l.getD j eb)) (fun k => l.length - k) 0 ⟨Nat.zero_le _, fun j hj => absurd hj (Nat.not_lt_zero _)⟩ ?_ ?_ ?_
  · rfl
  · exact ⟨rfl, rfl, rfl, rfl, trivial⟩
  rintro k ⟨hk, hno⟩
  by_cases hlt : k < l.length
  · obtain ⟨b, o, c', hv, _, hcc⟩ := RdS.some hN (by omega)
    cases hv
    have hcell := hcc k _ (nmsC_get l k hlt)
    refine zc_seq ?_
    refine zc_region ?_
    refine z_cmpB (r := true) want_none (by decide) rfl rfl rfl (iff_of_true rfl (by omega)) ?_
    refine zl_nil ?_
    refine zk_seq ?_
    refine zc_seq ?_
    refine zc_true rfl ?_
    refine zc_skip ?_
    refine zk_seq ?_
    refine zc_seq ?_
    refine zc_block ?_
    refine zc_seq ?_
    refine zc_region ?_
    refine z_ia want_none (by decide) rfl rfl (by omega) (by omega) ?_
    refine z_load1 (by first | exact want_none | exact want_L rfl) (by decide) rfl (cell_at hcell (by omega)) ?_
    refine zl_pureL rfl ?_
    refine zl_nil ?_
    refine zk_seq ?_
    refine zc_seq ?_
    refine zc_region ?_
    iterate 2 (refine zl_pureL rfl ?_)
    refine z_fa want_none (by decide) rfl ?_
    refine z_loadB want_none (by decide) rfl (by assumption) (by rfl) ?_
    refine zl_pureL rfl ?_
    refine zl_run (by first | exact want_none | exact want_L rfl) rfl (by decide) (r_lookup u69 u9 z3 rfl rfl h.mp) ?_
    by_cases hp : 0 < m (l.getD k eb)
    · refine z_cmpB (r := true) want_none (by decide) rfl rfl rfl (iff_of_true rfl (by omega)) ?_
      refine zl_nil ?_
      refine zk_seq ?_
      refine zc_true rfl ?_
      refine zc_seq ?_
      refine zc_region ?_
      refine zl_pureL rfl ?_
      refine zl_nil ?_
      refine zk_seq ?_
      refine zc_ret ?_
      refine zk_ret_block ?_
      iterate 2 (refine zk_ret_then ?_)
      refine zk_ret_block ?_
      refine zk_ret_then ?_
      exact zk_ret1 (.inr rfl) rfl rfl ⟨⟨true, rfl, iff_of_true rfl ⟨_, mem_at hlt, hp⟩⟩, rfl⟩
    · refine z_cmpB (r := false) want_none (by decide) rfl rfl rfl (iff_of_false Bool.false_ne_true (by omega)) ?_
      refine zl_nil ?_
      refine zk_seq ?_
      refine zc_false rfl ?_
      refine zc_skip ?_
      refine zk_norm_block ?_
      refine zk_seq ?_
      refine zc_region ?_
      refine z_add want_none (by decide) rfl rfl (by omega) (by omega) ?_
      refine zl_pureL rfl ?_
      refine zl_nil ?_
      exact zk_loop (k + 1) ⟨by omega, fun j hj => by
        by_cases hjk : j = k
        · subst hjk; exact hp
        · exact hno j (by omega)⟩ (by omega) rfl ⟨rfl, rfl, rfl, get_int rfl (by simp), trivial⟩
  · refine zc_seq ?_
    refine zc_region ?_
    refine z_cmpB (r := false) want_none (by decide) rfl rfl rfl (iff_of_false Bool.false_ne_true (by omega)) ?_
    refine zl_nil ?_
    refine zk_seq ?_
    refine zc_seq ?_
    refine zc_false rfl ?_
    refine zc_exit ?_
    iterate 2 (refine zk_exit_then ?_)
    refine zk_exit_block ?_
    refine zk_seq ?_
    refine zc_seq ?_
    refine zc_region ?_
    refine zl_pureL rfl ?_
    refine zl_nil ?_
    refine zk_seq ?_
    refine zc_ret ?_
    refine zk_ret1 (.inr rfl) rfl rfl ⟨⟨false, rfl, iff_of_false Bool.false_ne_true (fun ⟨x, hx, hp⟩ => ?_)⟩, rfl⟩
    obtain ⟨j, hj, hje⟩ := List.getElem_of_mem hx
    exact hno j (by omega) (by rw [List.getD_eq_getElem?_getD, List.getElem?_eq_getElem hj]; simp only [Option.getD_some, hje]; exact hp)
end
end Go.Proofs.Yteeibieaapiomaa.D
/- SWall -/
/- Walls of scopes. -/
namespace Go.Proofs.Yteeibieaapiomaa.D
open Go Go.Z Go.Proofs
set_option linter.unusedVariables false
def anyH : List ByteArray := [⟨#[97, 112, 112, 108, 101, 116]⟩, ⟨#[99, 97, 112, 116, 105, 111, 110]⟩, ⟨#[104, 116, 109, 108]⟩, ⟨#[109, 97, 114, 113, 117, 101, 101]⟩, ⟨#[111, 98, 106, 101, 99, 116]⟩, ⟨#[116, 97, 98, 108, 101]⟩, ⟨#[116, 100]⟩, ⟨#[116, 101, 109, 112, 108, 97, 116, 101]⟩, ⟨#[116, 104]⟩]
def anyM : List ByteArray := [⟨#[97, 110, 110, 111, 116, 97, 116, 105, 111, 110, 45, 120, 109, 108]⟩, ⟨#[109, 105]⟩, ⟨#[109, 110]⟩, ⟨#[109, 111]⟩, ⟨#[109, 115]⟩, ⟨#[109, 116, 101, 120, 116]⟩]
def anyS : List ByteArray := [⟨#[100, 101, 115, 99]⟩, ⟨#[102, 111, 114, 101, 105, 103, 110, 79, 98, 106, 101, 99, 116]⟩, ⟨#[116, 105, 116, 108, 101]⟩]
def walL : List ByteArray := [⟨#[111, 108]⟩, ⟨#[117, 108]⟩]
def walB : List ByteArray := [⟨#[98, 117, 116, 116, 111, 110]⟩]
def walT : List ByteArray := [⟨#[104, 116, 109, 108]⟩, ⟨#[116, 97, 98, 108, 101]⟩, ⟨#[116, 101, 109, 112, 108, 97, 116, 101]⟩]
def anyW (sp : Int) (nm : ByteArray) : Bool := if sp = 1 then memB nm anyH else if sp = 3 then memB nm anyM else if sp = 2 then memB nm anyS else false
def wallW (sc sp : Int) (nm : ByteArray) : Bool :=
  if sc = 1 then anyW sp nm else if sc = 2 then anyW sp nm || (decide (sp = 1) && memB nm walL) else if sc = 3 then anyW sp nm || (decide (sp = 1) && memB nm walB) else if sc = 4 then decide (sp = 1) && memB nm walT else false
set_option maxHeartbeats 8000000 in
theorem sAny_calls {w : World} (sp : Int) (nm : ByteArray) : Calls Try.prog 98 [.int .i64 sp, .string nm].toArray w fun x w' => x = .returned (.bool (anyW sp nm)) ∧ w' = w := by
  unfold anyW
  refine calls_zc (n := 41) (f := 98) (fn := Try.f98) Try.func98 rfl rfl (by simp) ?_
  by_cases h1 : sp = 1
  · subst h1
    rw [if_pos rfl]
    refine zc_seq ?_
    refine zc_region ?_
    refine zl_pureL rfl ?_
    refine zl_nil ?_
    refine zk_seq ?_
    iterate 2 (refine zc_seq ?_)
    refine zc_region ?_
    refine zl_pureL rfl ?_
    refine zl_nil ?_
    refine zk_seq ?_
    refine zc_block ?_
    refine zc_seq ?_
    refine zc_region ?_
    refine z_cmpB (r := true) want_none (by decide) rfl rfl rfl (iff_of_true rfl (by omega)) ?_
    refine zl_pureL rfl ?_
    refine zl_nil ?_
    refine zk_seq ?_
    refine zc_true rfl ?_
    refine zc_seq ?_
    refine zc_region ?_
    refine zl_pureL rfl ?_
    refine zl_nil ?_
    refine zk_seq ?_
    refine zc_block ?_
    iterate 2 (refine zc_seq ?_)
    refine zc_region ?_
    refine z_eqS (by first | exact want_none | exact want_L rfl) (by decide) rfl rfl (fun hc0 => ?_) (fun hc0 => ?_)
    · rw [memB_iff.2 (show nm ∈ anyH by rw [hc0]; simp [anyH])]
      refine zl_pureL rfl ?_
      refine zl_nil ?_
      refine zk_seq ?_
      refine zc_true rfl ?_
      refine zc_skip ?_
      refine zk_seq ?_
      refine zc_true rfl ?_
      refine zc_seq ?_
      refine zc_region ?_
      refine zl_pureL rfl ?_
      refine zl_nil ?_
      refine zk_seq ?_
      refine zc_ret ?_
      iterate 2 (refine zk_ret_block ?_)
      refine zk_ret_then ?_
      exact zk_ret1 (.inr rfl) rfl rfl ⟨rfl, rfl⟩
    refine zl_pureL rfl ?_
    refine zl_nil ?_
    refine zk_seq ?_
    refine zc_false rfl ?_
    refine zc_seq ?_
    refine zc_region ?_
    refine z_eqS (by first | exact want_none | exact want_L rfl) (by decide) rfl rfl (fun hc1 => ?_) (fun hc1 => ?_)
    · rw [memB_iff.2 (show nm ∈ anyH by rw [hc1]; simp [anyH])]
      refine zl_pureL rfl ?_
      refine zl_nil ?_
      refine zk_seq ?_
      refine zc_true rfl ?_
      refine zc_skip ?_
      refine zk_seq ?_
      refine zc_true rfl ?_
      refine zc_seq ?_
      refine zc_region ?_
      refine zl_pureL rfl ?_
      refine zl_nil ?_
      refine zk_seq ?_
      refine zc_ret ?_
      iterate 2 (refine zk_ret_block ?_)
      refine zk_ret_then ?_
      exact zk_ret1 (.inr rfl) rfl rfl ⟨rfl, rfl⟩
    refine zl_pureL rfl ?_
    refine zl_nil ?_
    refine zk_seq ?_
    refine zc_false rfl ?_
    refine zc_seq ?_
    refine zc_region ?_
    refine z_eqS (by first | exact want_none | exact want_L rfl) (by decide) rfl rfl (fun hc2 => ?_) (fun hc2 => ?_)
    · rw [memB_iff.2 (show nm ∈ anyH by rw [hc2]; simp [anyH])]
      refine zl_pureL rfl ?_
      refine zl_nil ?_
      refine zk_seq ?_
      refine zc_true rfl ?_
      refine zc_skip ?_
      refine zk_seq ?_
      refine zc_true rfl ?_
      refine zc_seq ?_
      refine zc_region ?_
      refine zl_pureL rfl ?_
      refine zl_nil ?_
      refine zk_seq ?_
      refine zc_ret ?_
      iterate 2 (refine zk_ret_block ?_)
      refine zk_ret_then ?_
      exact zk_ret1 (.inr rfl) rfl rfl ⟨rfl, rfl⟩
    refine zl_pureL rfl ?_
    refine zl_nil ?_
    refine zk_seq ?_
    refine zc_false rfl ?_
    refine zc_seq ?_
    refine zc_region ?_
    refine z_eqS (by first | exact want_none | exact want_L rfl) (by decide) rfl rfl (fun hc3 => ?_) (fun hc3 => ?_)
    · rw [memB_iff.2 (show nm ∈ anyH by rw [hc3]; simp [anyH])]
      refine zl_pureL rfl ?_
      refine zl_nil ?_
      refine zk_seq ?_
      refine zc_true rfl ?_
      refine zc_skip ?_
      refine zk_seq ?_
      refine zc_true rfl ?_
      refine zc_seq ?_
      refine zc_region ?_
      refine zl_pureL rfl ?_
      refine zl_nil ?_
      refine zk_seq ?_
      refine zc_ret ?_
      iterate 2 (refine zk_ret_block ?_)
      refine zk_ret_then ?_
      exact zk_ret1 (.inr rfl) rfl rfl ⟨rfl, rfl⟩
    refine zl_pureL rfl ?_
    refine zl_nil ?_
    refine zk_seq ?_
    refine zc_false rfl ?_
    refine zc_seq ?_
    refine zc_region ?_
    refine z_eqS (by first | exact want_none | exact want_L rfl) (by decide) rfl rfl (fun hc4 => ?_) (fun hc4 => ?_)
    · rw [memB_iff.2 (show nm ∈ anyH by rw [hc4]; simp [anyH])]
      refine zl_pureL rfl ?_
      refine zl_nil ?_
      refine zk_seq ?_
      refine zc_true rfl ?_
      refine zc_skip ?_
      refine zk_seq ?_
      refine zc_true rfl ?_
      refine zc_seq ?_
      refine zc_region ?_
      refine zl_pureL rfl ?_
      refine zl_nil ?_
      refine zk_seq ?_
      refine zc_ret ?_
      iterate 2 (refine zk_ret_block ?_)
      refine zk_ret_then ?_
      exact zk_ret1 (.inr rfl) rfl rfl ⟨rfl, rfl⟩
    refine zl_pureL rfl ?_
    refine zl_nil ?_
    refine zk_seq ?_
    refine zc_false rfl ?_
    refine zc_seq ?_
    refine zc_region ?_
    refine z_eqS (by first | exact want_none | exact want_L rfl) (by decide) rfl rfl (fun hc5 => ?_) (fun hc5 => ?_)
    · rw [memB_iff.2 (show nm ∈ anyH by rw [hc5]; simp [anyH])]
      refine zl_pureL rfl ?_
      refine zl_nil ?_
      refine zk_seq ?_
      refine zc_true rfl ?_
      refine zc_skip ?_
      refine zk_seq ?_
      refine zc_true rfl ?_
      refine zc_seq ?_
      refine zc_region ?_
      refine zl_pureL rfl ?_
      refine zl_nil ?_
      refine zk_seq ?_
      refine zc_ret ?_
      iterate 2 (refine zk_ret_block ?_)
      refine zk_ret_then ?_
      exact zk_ret1 (.inr rfl) rfl rfl ⟨rfl, rfl⟩
    refine zl_pureL rfl ?_
    refine zl_nil ?_
    refine zk_seq ?_
    refine zc_false rfl ?_
    refine zc_seq ?_
    refine zc_region ?_
    refine z_eqS (by first | exact want_none | exact want_L rfl) (by decide) rfl rfl (fun hc6 => ?_) (fun hc6 => ?_)
    · rw [memB_iff.2 (show nm ∈ anyH by rw [hc6]; simp [anyH])]
      refine zl_pureL rfl ?_
      refine zl_nil ?_
      refine zk_seq ?_
      refine zc_true rfl ?_
      refine zc_skip ?_
      refine zk_seq ?_
      refine zc_true rfl ?_
      refine zc_seq ?_
      refine zc_region ?_
      refine zl_pureL rfl ?_
      refine zl_nil ?_
      refine zk_seq ?_
      refine zc_ret ?_
      iterate 2 (refine zk_ret_block ?_)
      refine zk_ret_then ?_
      exact zk_ret1 (.inr rfl) rfl rfl ⟨rfl, rfl⟩
    refine zl_pureL rfl ?_
    refine zl_nil ?_
    refine zk_seq ?_
    refine zc_false rfl ?_
    refine zc_seq ?_
    refine zc_region ?_
    refine z_eqS (by first | exact want_none | exact want_L rfl) (by decide) rfl rfl (fun hc7 => ?_) (fun hc7 => ?_)
    · rw [memB_iff.2 (show nm ∈ anyH by rw [hc7]; simp [anyH])]
      refine zl_pureL rfl ?_
      refine zl_nil ?_
      refine zk_seq ?_
      refine zc_true rfl ?_
      refine zc_skip ?_
      refine zk_seq ?_
      refine zc_true rfl ?_
      refine zc_seq ?_
      refine zc_region ?_
      refine zl_pureL rfl ?_
      refine zl_nil ?_
      refine zk_seq ?_
      refine zc_ret ?_
      iterate 2 (refine zk_ret_block ?_)
      refine zk_ret_then ?_
      exact zk_ret1 (.inr rfl) rfl rfl ⟨rfl, rfl⟩
    refine zl_pureL rfl ?_
    refine zl_nil ?_
    refine zk_seq ?_
    refine zc_false rfl ?_
    refine zc_region ?_
    refine z_eqS (by first | exact want_none | exact want_L rfl) (by decide) rfl rfl (fun hc8 => ?_) (fun hc8 => ?_)
    · rw [memB_iff.2 (show nm ∈ anyH by rw [hc8]; simp [anyH])]
      refine zl_pureL rfl ?_
      refine zl_nil ?_
      refine zk_seq ?_
      refine zc_true rfl ?_
      refine zc_seq ?_
      refine zc_region ?_
      refine zl_pureL rfl ?_
      refine zl_nil ?_
      refine zk_seq ?_
      refine zc_ret ?_
      iterate 2 (refine zk_ret_block ?_)
      refine zk_ret_then ?_
      exact zk_ret1 (.inr rfl) rfl rfl ⟨rfl, rfl⟩
    rw [memB_no (fun hm => by
      simp only [anyH, List.mem_cons, List.not_mem_nil, or_false] at hm
      rcases hm with hm | hm | hm | hm | hm | hm | hm | hm | hm
      · exact hc0 hm
      · exact hc1 hm
      · exact hc2 hm
      · exact hc3 hm
      · exact hc4 hm
      · exact hc5 hm
      · exact hc6 hm
      · exact hc7 hm
      · exact hc8 hm
      )]
    refine zl_pureL rfl ?_
    refine zl_nil ?_
    refine zk_seq ?_
    refine zc_false rfl ?_
    refine zc_skip ?_
    iterate 2 (refine zk_norm_block ?_)
    refine zk_seq ?_
    refine zc_seq ?_
    refine zc_region ?_
    refine zl_pureL rfl ?_
    refine zl_nil ?_
    refine zk_seq ?_
    refine zc_ret ?_
    exact zk_ret1 (.inr rfl) rfl rfl ⟨rfl, rfl⟩
  rw [if_neg h1]
  by_cases h3 : sp = 3
  · subst h3
    rw [if_pos rfl]
    refine zc_seq ?_
    refine zc_region ?_
    refine zl_pureL rfl ?_
    refine zl_nil ?_
    refine zk_seq ?_
    iterate 2 (refine zc_seq ?_)
    refine zc_region ?_
    refine zl_pureL rfl ?_
    refine zl_nil ?_
    refine zk_seq ?_
    refine zc_block ?_
    refine zc_seq ?_
    refine zc_region ?_
    refine z_cmpB (r := false) want_none (by decide) rfl rfl rfl (iff_of_false Bool.false_ne_true (by omega)) ?_
    refine zl_pureL rfl ?_
    refine zl_nil ?_
    refine zk_seq ?_
    refine zc_false rfl ?_
    refine zc_seq ?_
    refine zc_region ?_
    refine z_cmpB (r := true) want_none (by decide) rfl rfl rfl (iff_of_true rfl (by omega)) ?_
    refine zl_pureL rfl ?_
    refine zl_nil ?_
    refine zk_seq ?_
    refine zc_true rfl ?_
    refine zc_seq ?_
    refine zc_region ?_
    refine zl_pureL rfl ?_
    refine zl_nil ?_
    refine zk_seq ?_
    refine zc_block ?_
    iterate 2 (refine zc_seq ?_)
    refine zc_region ?_
    refine z_eqS (by first | exact want_none | exact want_L rfl) (by decide) rfl rfl (fun hc0 => ?_) (fun hc0 => ?_)
    · rw [memB_iff.2 (show nm ∈ anyM by rw [hc0]; simp [anyM])]
      refine zl_pureL rfl ?_
      refine zl_nil ?_
      refine zk_seq ?_
      refine zc_true rfl ?_
      refine zc_skip ?_
      refine zk_seq ?_
      refine zc_true rfl ?_
      refine zc_seq ?_
      refine zc_region ?_
      refine zl_pureL rfl ?_
      refine zl_nil ?_
      refine zk_seq ?_
      refine zc_ret ?_
      iterate 2 (refine zk_ret_block ?_)
      refine zk_ret_then ?_
      exact zk_ret1 (.inr rfl) rfl rfl ⟨rfl, rfl⟩
    refine zl_pureL rfl ?_
    refine zl_nil ?_
    refine zk_seq ?_
    refine zc_false rfl ?_
    refine zc_seq ?_
    refine zc_region ?_
    refine z_eqS (by first | exact want_none | exact want_L rfl) (by decide) rfl rfl (fun hc1 => ?_) (fun hc1 => ?_)
    · rw [memB_iff.2 (show nm ∈ anyM by rw [hc1]; simp [anyM])]
      refine zl_pureL rfl ?_
      refine zl_nil ?_
      refine zk_seq ?_
      refine zc_true rfl ?_
      refine zc_skip ?_
      refine zk_seq ?_
      refine zc_true rfl ?_
      refine zc_seq ?_
      refine zc_region ?_
      refine zl_pureL rfl ?_
      refine zl_nil ?_
      refine zk_seq ?_
      refine zc_ret ?_
      iterate 2 (refine zk_ret_block ?_)
      refine zk_ret_then ?_
      exact zk_ret1 (.inr rfl) rfl rfl ⟨rfl, rfl⟩
    refine zl_pureL rfl ?_
    refine zl_nil ?_
    refine zk_seq ?_
    refine zc_false rfl ?_
    refine zc_seq ?_
    refine zc_region ?_
    refine z_eqS (by first | exact want_none | exact want_L rfl) (by decide) rfl rfl (fun hc2 => ?_) (fun hc2 => ?_)
    · rw [memB_iff.2 (show nm ∈ anyM by rw [hc2]; simp [anyM])]
      refine zl_pureL rfl ?_
      refine zl_nil ?_
      refine zk_seq ?_
      refine zc_true rfl ?_
      refine zc_skip ?_
      refine zk_seq ?_
      refine zc_true rfl ?_
      refine zc_seq ?_
      refine zc_region ?_
      refine zl_pureL rfl ?_
      refine zl_nil ?_
      refine zk_seq ?_
      refine zc_ret ?_
      iterate 2 (refine zk_ret_block ?_)
      refine zk_ret_then ?_
      exact zk_ret1 (.inr rfl) rfl rfl ⟨rfl, rfl⟩
    refine zl_pureL rfl ?_
    refine zl_nil ?_
    refine zk_seq ?_
    refine zc_false rfl ?_
    refine zc_seq ?_
    refine zc_region ?_
    refine z_eqS (by first | exact want_none | exact want_L rfl) (by decide) rfl rfl (fun hc3 => ?_) (fun hc3 => ?_)
    · rw [memB_iff.2 (show nm ∈ anyM by rw [hc3]; simp [anyM])]
      refine zl_pureL rfl ?_
      refine zl_nil ?_
      refine zk_seq ?_
      refine zc_true rfl ?_
      refine zc_skip ?_
      refine zk_seq ?_
      refine zc_true rfl ?_
      refine zc_seq ?_
      refine zc_region ?_
      refine zl_pureL rfl ?_
      refine zl_nil ?_
      refine zk_seq ?_
      refine zc_ret ?_
      iterate 2 (refine zk_ret_block ?_)
      refine zk_ret_then ?_
      exact zk_ret1 (.inr rfl) rfl rfl ⟨rfl, rfl⟩
    refine zl_pureL rfl ?_
    refine zl_nil ?_
    refine zk_seq ?_
    refine zc_false rfl ?_
    refine zc_seq ?_
    refine zc_region ?_
    refine z_eqS (by first | exact want_none | exact want_L rfl) (by decide) rfl rfl (fun hc4 => ?_) (fun hc4 => ?_)
    · rw [memB_iff.2 (show nm ∈ anyM by rw [hc4]; simp [anyM])]
      refine zl_pureL rfl ?_
      refine zl_nil ?_
      refine zk_seq ?_
      refine zc_true rfl ?_
      refine zc_skip ?_
      refine zk_seq ?_
      refine zc_true rfl ?_
      refine zc_seq ?_
      refine zc_region ?_
      refine zl_pureL rfl ?_
      refine zl_nil ?_
      refine zk_seq ?_
      refine zc_ret ?_
      iterate 2 (refine zk_ret_block ?_)
      refine zk_ret_then ?_
      exact zk_ret1 (.inr rfl) rfl rfl ⟨rfl, rfl⟩
    refine zl_pureL rfl ?_
    refine zl_nil ?_
    refine zk_seq ?_
    refine zc_false rfl ?_
    refine zc_region ?_
    refine z_eqS (by first | exact want_none | exact want_L rfl) (by decide) rfl rfl (fun hc5 => ?_) (fun hc5 => ?_)
    · rw [memB_iff.2 (show nm ∈ anyM by rw [hc5]; simp [anyM])]
      refine zl_pureL rfl ?_
      refine zl_nil ?_
      refine zk_seq ?_
      refine zc_true rfl ?_
      refine zc_seq ?_
      refine zc_region ?_
      refine zl_pureL rfl ?_
      refine zl_nil ?_
      refine zk_seq ?_
      refine zc_ret ?_
      iterate 2 (refine zk_ret_block ?_)
      refine zk_ret_then ?_
      exact zk_ret1 (.inr rfl) rfl rfl ⟨rfl, rfl⟩
    rw [memB_no (fun hm => by
      simp only [anyM, List.mem_cons, List.not_mem_nil, or_false] at hm
      rcases hm with hm | hm | hm | hm | hm | hm
      · exact hc0 hm
      · exact hc1 hm
      · exact hc2 hm
      · exact hc3 hm
      · exact hc4 hm
      · exact hc5 hm
      )]
    refine zl_pureL rfl ?_
    refine zl_nil ?_
    refine zk_seq ?_
    refine zc_false rfl ?_
    refine zc_skip ?_
    iterate 2 (refine zk_norm_block ?_)
    refine zk_seq ?_
    refine zc_seq ?_
    refine zc_region ?_
    refine zl_pureL rfl ?_
    refine zl_nil ?_
    refine zk_seq ?_
    refine zc_ret ?_
    exact zk_ret1 (.inr rfl) rfl rfl ⟨rfl, rfl⟩
  rw [if_neg h3]
  by_cases h2 : sp = 2
  · subst h2
    rw [if_pos rfl]
    refine zc_seq ?_
    refine zc_region ?_
    refine zl_pureL rfl ?_
    refine zl_nil ?_
    refine zk_seq ?_
    iterate 2 (refine zc_seq ?_)
    refine zc_region ?_
    refine zl_pureL rfl ?_
    refine zl_nil ?_
    refine zk_seq ?_
    refine zc_block ?_
    refine zc_seq ?_
    refine zc_region ?_
    refine z_cmpB (r := false) want_none (by decide) rfl rfl rfl (iff_of_false Bool.false_ne_true (by omega)) ?_
    refine zl_pureL rfl ?_
    refine zl_nil ?_
    refine zk_seq ?_
    refine zc_false rfl ?_
    refine zc_seq ?_
    refine zc_region ?_
    refine z_cmpB (r := false) want_none (by decide) rfl rfl rfl (iff_of_false Bool.false_ne_true (by omega)) ?_
    refine zl_pureL rfl ?_
    refine zl_nil ?_
    refine zk_seq ?_
    refine zc_false rfl ?_
    refine zc_seq ?_
    refine zc_region ?_
    refine z_cmpB (r := true) want_none (by decide) rfl rfl rfl (iff_of_true rfl (by omega)) ?_
    refine zl_pureL rfl ?_
    refine zl_nil ?_
    refine zk_seq ?_
    refine zc_true rfl ?_
    refine zc_seq ?_
    refine zc_region ?_
    refine zl_pureL rfl ?_
    refine z_eqS (by first | exact want_none | exact want_L rfl) (by decide) rfl rfl (fun hc0 => ?_) (fun hc0 => ?_)
    · rw [memB_iff.2 (show nm ∈ anyS by rw [hc0]; simp [anyS])]
      iterate 2 (refine zl_pureL rfl ?_)
      refine zl_skip rfl ?_
      iterate 3 (refine zl_pureL rfl ?_)
      refine zl_skip rfl ?_
      iterate 2 (refine zl_pureL rfl ?_)
      refine zl_nil ?_
      refine zk_seq ?_
      refine zc_ret ?_
      refine zk_ret_block ?_
      refine zk_ret_then ?_
      exact zk_ret1 (.inr rfl) rfl rfl ⟨rfl, rfl⟩
    iterate 2 (refine zl_pureL rfl ?_)
    refine z_eqS (by first | exact want_none | exact want_L rfl) (by decide) rfl rfl (fun hc1 => ?_) (fun hc1 => ?_)
    · rw [memB_iff.2 (show nm ∈ anyS by rw [hc1]; simp [anyS])]
      iterate 3 (refine zl_pureL rfl ?_)
      refine zl_skip rfl ?_
      iterate 2 (refine zl_pureL rfl ?_)
      refine zl_nil ?_
      refine zk_seq ?_
      refine zc_ret ?_
      refine zk_ret_block ?_
      refine zk_ret_then ?_
      exact zk_ret1 (.inr rfl) rfl rfl ⟨rfl, rfl⟩
    iterate 3 (refine zl_pureL rfl ?_)
    refine z_eqS (by first | exact want_none | exact want_L rfl) (by decide) rfl rfl (fun hc2 => ?_) (fun hc2 => ?_)
    · rw [memB_iff.2 (show nm ∈ anyS by rw [hc2]; simp [anyS])]
      iterate 2 (refine zl_pureL rfl ?_)
      refine zl_nil ?_
      refine zk_seq ?_
      refine zc_ret ?_
      refine zk_ret_block ?_
      refine zk_ret_then ?_
      exact zk_ret1 (.inr rfl) rfl rfl ⟨rfl, rfl⟩
    rw [memB_no (fun hm => by
      simp only [anyS, List.mem_cons, List.not_mem_nil, or_false] at hm
      rcases hm with hm | hm | hm
      · exact hc0 hm
      · exact hc1 hm
      · exact hc2 hm
      )]
    iterate 2 (refine zl_pureL rfl ?_)
    refine zl_nil ?_
    refine zk_seq ?_
    refine zc_ret ?_
    refine zk_ret_block ?_
    refine zk_ret_then ?_
    exact zk_ret1 (.inr rfl) rfl rfl ⟨rfl, rfl⟩
  rw [if_neg h2]
  refine zc_seq ?_
  refine zc_region ?_
  refine zl_pureL rfl ?_
  refine zl_nil ?_
  refine zk_seq ?_
  iterate 2 (refine zc_seq ?_)
  refine zc_region ?_
  refine zl_pureL rfl ?_
  refine zl_nil ?_
  refine zk_seq ?_
  refine zc_block ?_
  refine zc_seq ?_
  refine zc_region ?_
  refine z_cmpB (r := false) want_none (by decide) rfl rfl rfl (iff_of_false Bool.false_ne_true (by omega)) ?_
  refine zl_pureL rfl ?_
  refine zl_nil ?_
  refine zk_seq ?_
  refine zc_false rfl ?_
  refine zc_seq ?_
  refine zc_region ?_
  refine z_cmpB (r := false) want_none (by decide) rfl rfl rfl (iff_of_false Bool.false_ne_true (by omega)) ?_
  refine zl_pureL rfl ?_
  refine zl_nil ?_
  refine zk_seq ?_
  refine zc_false rfl ?_
  refine zc_seq ?_
  refine zc_region ?_
  refine z_cmpB (r := false) want_none (by decide) rfl rfl rfl (iff_of_false Bool.false_ne_true (by omega)) ?_
  refine zl_pureL rfl ?_
  refine zl_nil ?_
  refine zk_seq ?_
  refine zc_false rfl ?_
  refine zc_skip ?_
  refine zk_norm_block ?_
  refine zk_seq ?_
  refine zc_seq ?_
  refine zc_region ?_
  refine zl_pureL rfl ?_
  refine zl_nil ?_
  refine zk_seq ?_
  refine zc_ret ?_
  exact zk_ret1 (.inr rfl) rfl rfl ⟨rfl, rfl⟩
set_option maxHeartbeats 8000000 in
theorem sWall_calls {w : World} (sc sp : Int) (nm : ByteArray) : Calls Try.prog 76 [.int .i64 sc, .int .i64 sp, .string nm].toArray w fun x w' => x = .returned (.bool (wallW sc sp nm)) ∧ w' = w := by
  unfold wallW
  refine calls_zc (n := 59) (f := 76) (fn := Try.f76) Try.func76 rfl rfl (by simp) ?_
  by_cases c1 : sc = 1
  · subst c1
    rw [if_pos rfl]
    by_cases hs : sp = 1
    · refine zc_seq ?_
      refine zc_region ?_
      refine zl_pureL rfl ?_
      refine zl_nil ?_
      refine zk_seq ?_
      refine zc_seq ?_
      refine zc_region ?_
      refine zl_pureL rfl ?_
      refine z_cmpB (r := true) want_none (by decide) rfl rfl rfl (iff_of_true rfl (by omega)) ?_
      refine zl_pureL rfl ?_
      refine zl_nil ?_
      refine zk_seq ?_
      iterate 2 (refine zc_seq ?_)
      refine zc_region ?_
      refine zl_pureL rfl ?_
      refine zl_nil ?_
      refine zk_seq ?_
      refine zc_block ?_
      refine zc_seq ?_
      refine zc_region ?_
      refine z_cmpB (r := true) want_none (by decide) rfl rfl rfl (iff_of_true rfl (by omega)) ?_
      refine zl_pureL rfl ?_
      refine zl_nil ?_
      refine zk_seq ?_
      refine zc_true rfl ?_
      refine zc_seq ?_
      refine zc_region ?_
      iterate 2 (refine zl_pureL rfl ?_)
      refine zl_call (by first | exact want_none | exact want_L rfl) rfl (by decide) rfl (sAny_calls sp nm) ?_
      rintro _ u ⟨rfl, hu⟩
      obtain rfl := hu.symm
      refine ⟨_, rfl, ?_⟩
      refine zl_pureL rfl ?_
      refine zl_nil ?_
      refine zk_seq ?_
      refine zc_ret ?_
      refine zk_ret_block ?_
      refine zk_ret_then ?_
      exact zk_ret1 (.inr rfl) rfl rfl ⟨rfl, rfl⟩
    · refine zc_seq ?_
      refine zc_region ?_
      refine zl_pureL rfl ?_
      refine zl_nil ?_
      refine zk_seq ?_
      refine zc_seq ?_
      refine zc_region ?_
      refine zl_pureL rfl ?_
      refine z_cmpB (r := false) want_none (by decide) rfl rfl rfl (iff_of_false Bool.false_ne_true (by omega)) ?_
      refine zl_pureL rfl ?_
      refine zl_nil ?_
      refine zk_seq ?_
      iterate 2 (refine zc_seq ?_)
      refine zc_region ?_
      refine zl_pureL rfl ?_
      refine zl_nil ?_
      refine zk_seq ?_
      refine zc_block ?_
      refine zc_seq ?_
      refine zc_region ?_
      refine z_cmpB (r := true) want_none (by decide) rfl rfl rfl (iff_of_true rfl (by omega)) ?_
      refine zl_pureL rfl ?_
      refine zl_nil ?_
      refine zk_seq ?_
      refine zc_true rfl ?_
      refine zc_seq ?_
      refine zc_region ?_
      iterate 2 (refine zl_pureL rfl ?_)
      refine zl_call (by first | exact want_none | exact want_L rfl) rfl (by decide) rfl (sAny_calls sp nm) ?_
      rintro _ u ⟨rfl, hu⟩
      obtain rfl := hu.symm
      refine ⟨_, rfl, ?_⟩
      refine zl_pureL rfl ?_
      refine zl_nil ?_
      refine zk_seq ?_
      refine zc_ret ?_
      refine zk_ret_block ?_
      refine zk_ret_then ?_
      exact zk_ret1 (.inr rfl) rfl rfl ⟨rfl, rfl⟩
  rw [if_neg c1]
  by_cases c2 : sc = 2
  · subst c2
    rw [if_pos rfl]
    by_cases hs : sp = 1
    · subst hs
      refine zc_seq ?_
      refine zc_region ?_
      refine zl_pureL rfl ?_
      refine zl_nil ?_
      refine zk_seq ?_
      refine zc_seq ?_
      refine zc_region ?_
      refine zl_pureL rfl ?_
      refine z_cmpB (r := true) want_none (by decide) rfl rfl rfl (iff_of_true rfl (by omega)) ?_
      refine zl_pureL rfl ?_
      refine zl_nil ?_
      refine zk_seq ?_
      iterate 2 (refine zc_seq ?_)
      refine zc_region ?_
      refine zl_pureL rfl ?_
      refine zl_nil ?_
      refine zk_seq ?_
      refine zc_block ?_
      refine zc_seq ?_
      refine zc_region ?_
      refine z_cmpB (r := false) want_none (by decide) rfl rfl rfl (iff_of_false Bool.false_ne_true (by omega)) ?_
      refine zl_pureL rfl ?_
      refine zl_nil ?_
      refine zk_seq ?_
      refine zc_false rfl ?_
      refine zc_seq ?_
      refine zc_region ?_
      refine z_cmpB (r := true) want_none (by decide) rfl rfl rfl (iff_of_true rfl (by omega)) ?_
      refine zl_pureL rfl ?_
      refine zl_nil ?_
      refine zk_seq ?_
      refine zc_true rfl ?_
      refine zc_seq ?_
      refine zc_region ?_
      iterate 2 (refine zl_pureL rfl ?_)
      refine zl_call (by first | exact want_none | exact want_L rfl) rfl (by decide) rfl (sAny_calls 1 nm) ?_
      rintro _ u ⟨rfl, hu⟩
      obtain rfl := hu.symm
      refine ⟨_, rfl, ?_⟩
      cases hany : anyW 1 nm
      · rw [Bool.false_or, decide_eq_true (show (1 : Int) = 1 from rfl), Bool.true_and]
        iterate 4 (refine zl_pureL rfl ?_)
        refine z_eqS (by first | exact want_none | exact want_L rfl) (by decide) rfl rfl (fun hc0 => ?_) (fun hc0 => ?_)
        · rw [memB_iff.2 (show nm ∈ walL by rw [hc0]; simp [walL])]
          iterate 2 (refine zl_pureL rfl ?_)
          refine zl_skip rfl ?_
          iterate 4 (refine zl_pureL rfl ?_)
          refine zl_nil ?_
          refine zk_seq ?_
          refine zc_ret ?_
          refine zk_ret_block ?_
          refine zk_ret_then ?_
          exact zk_ret1 (.inr rfl) rfl rfl ⟨rfl, rfl⟩
        iterate 2 (refine zl_pureL rfl ?_)
        refine z_eqS (by first | exact want_none | exact want_L rfl) (by decide) rfl rfl (fun hc1 => ?_) (fun hc1 => ?_)
        · rw [memB_iff.2 (show nm ∈ walL by rw [hc1]; simp [walL])]
          iterate 4 (refine zl_pureL rfl ?_)
          refine zl_nil ?_
          refine zk_seq ?_
          refine zc_ret ?_
          refine zk_ret_block ?_
          refine zk_ret_then ?_
          exact zk_ret1 (.inr rfl) rfl rfl ⟨rfl, rfl⟩
        rw [memB_no (fun hm => by
          simp only [walL, List.mem_cons, List.not_mem_nil, or_false] at hm
          rcases hm with hm | hm
          · exact hc0 hm
          · exact hc1 hm
          )]
        iterate 4 (refine zl_pureL rfl ?_)
        refine zl_nil ?_
        refine zk_seq ?_
        refine zc_ret ?_
        refine zk_ret_block ?_
        refine zk_ret_then ?_
        exact zk_ret1 (.inr rfl) rfl rfl ⟨rfl, rfl⟩
      · rw [Bool.true_or]
        iterate 4 (refine zl_pureL rfl ?_)
        refine zl_skip rfl ?_
        iterate 2 (refine zl_pureL rfl ?_)
        refine zl_skip rfl ?_
        iterate 4 (refine zl_pureL rfl ?_)
        refine zl_nil ?_
        refine zk_seq ?_
        refine zc_ret ?_
        refine zk_ret_block ?_
        refine zk_ret_then ?_
        exact zk_ret1 (.inr rfl) rfl rfl ⟨rfl, rfl⟩
    · refine zc_seq ?_
      refine zc_region ?_
      refine zl_pureL rfl ?_
      refine zl_nil ?_
      refine zk_seq ?_
      refine zc_seq ?_
      refine zc_region ?_
      refine zl_pureL rfl ?_
      refine z_cmpB (r := false) want_none (by decide) rfl rfl rfl (iff_of_false Bool.false_ne_true (by omega)) ?_
      refine zl_pureL rfl ?_
      refine zl_nil ?_
      refine zk_seq ?_
      iterate 2 (refine zc_seq ?_)
      refine zc_region ?_
      refine zl_pureL rfl ?_
      refine zl_nil ?_
      refine zk_seq ?_
      refine zc_block ?_
      refine zc_seq ?_
      refine zc_region ?_
      refine z_cmpB (r := false) want_none (by decide) rfl rfl rfl (iff_of_false Bool.false_ne_true (by omega)) ?_
      refine zl_pureL rfl ?_
      refine zl_nil ?_
      refine zk_seq ?_
      refine zc_false rfl ?_
      refine zc_seq ?_
      refine zc_region ?_
      refine z_cmpB (r := true) want_none (by decide) rfl rfl rfl (iff_of_true rfl (by omega)) ?_
      refine zl_pureL rfl ?_
      refine zl_nil ?_
      refine zk_seq ?_
      refine zc_true rfl ?_
      refine zc_seq ?_
      refine zc_region ?_
      iterate 2 (refine zl_pureL rfl ?_)
      refine zl_call (by first | exact want_none | exact want_L rfl) rfl (by decide) rfl (sAny_calls sp nm) ?_
      rintro _ u ⟨rfl, hu⟩
      obtain rfl := hu.symm
      refine ⟨_, rfl, ?_⟩
      rw [decide_eq_false hs, Bool.false_and, Bool.or_false]
      cases anyW sp nm
      · iterate 4 (refine zl_pureL rfl ?_)
        refine zl_skip rfl ?_
        iterate 2 (refine zl_pureL rfl ?_)
        refine zl_skip rfl ?_
        iterate 4 (refine zl_pureL rfl ?_)
        refine zl_nil ?_
        refine zk_seq ?_
        refine zc_ret ?_
        refine zk_ret_block ?_
        refine zk_ret_then ?_
        exact zk_ret1 (.inr rfl) rfl rfl ⟨rfl, rfl⟩
      · iterate 4 (refine zl_pureL rfl ?_)
        refine zl_skip rfl ?_
        iterate 2 (refine zl_pureL rfl ?_)
        refine zl_skip rfl ?_
        iterate 4 (refine zl_pureL rfl ?_)
        refine zl_nil ?_
        refine zk_seq ?_
        refine zc_ret ?_
        refine zk_ret_block ?_
        refine zk_ret_then ?_
        exact zk_ret1 (.inr rfl) rfl rfl ⟨rfl, rfl⟩
  rw [if_neg c2]
  by_cases c3 : sc = 3
  · subst c3
    rw [if_pos rfl]
    by_cases hs : sp = 1
    · subst hs
      refine zc_seq ?_
      refine zc_region ?_
      refine zl_pureL rfl ?_
      refine zl_nil ?_
      refine zk_seq ?_
      refine zc_seq ?_
      refine zc_region ?_
      refine zl_pureL rfl ?_
      refine z_cmpB (r := true) want_none (by decide) rfl rfl rfl (iff_of_true rfl (by omega)) ?_
      refine zl_pureL rfl ?_
      refine zl_nil ?_
      refine zk_seq ?_
      iterate 2 (refine zc_seq ?_)
      refine zc_region ?_
      refine zl_pureL rfl ?_
      refine zl_nil ?_
      refine zk_seq ?_
      refine zc_block ?_
      refine zc_seq ?_
      refine zc_region ?_
      refine z_cmpB (r := false) want_none (by decide) rfl rfl rfl (iff_of_false Bool.false_ne_true (by omega)) ?_
      refine zl_pureL rfl ?_
      refine zl_nil ?_
      refine zk_seq ?_
      refine zc_false rfl ?_
      refine zc_seq ?_
      refine zc_region ?_
      refine z_cmpB (r := false) want_none (by decide) rfl rfl rfl (iff_of_false Bool.false_ne_true (by omega)) ?_
      refine zl_pureL rfl ?_
      refine zl_nil ?_
      refine zk_seq ?_
      refine zc_false rfl ?_
      refine zc_seq ?_
      refine zc_region ?_
      refine z_cmpB (r := true) want_none (by decide) rfl rfl rfl (iff_of_true rfl (by omega)) ?_
      refine zl_pureL rfl ?_
      refine zl_nil ?_
      refine zk_seq ?_
      refine zc_true rfl ?_
      refine zc_seq ?_
      refine zc_region ?_
      iterate 2 (refine zl_pureL rfl ?_)
      refine zl_call (by first | exact want_none | exact want_L rfl) rfl (by decide) rfl (sAny_calls 1 nm) ?_
      rintro _ u ⟨rfl, hu⟩
      obtain rfl := hu.symm
      refine ⟨_, rfl, ?_⟩
      cases hany : anyW 1 nm
      · rw [Bool.false_or, decide_eq_true (show (1 : Int) = 1 from rfl), Bool.true_and]
        iterate 4 (refine zl_pureL rfl ?_)
        refine z_eqS (by first | exact want_none | exact want_L rfl) (by decide) rfl rfl (fun hc0 => ?_) (fun hc0 => ?_)
        · rw [memB_iff.2 (show nm ∈ walB by rw [hc0]; simp [walB])]
          iterate 3 (refine zl_pureL rfl ?_)
          refine zl_nil ?_
          refine zk_seq ?_
          refine zc_ret ?_
          refine zk_ret_block ?_
          refine zk_ret_then ?_
          exact zk_ret1 (.inr rfl) rfl rfl ⟨rfl, rfl⟩
        rw [memB_no (fun hm => by
          simp only [walB, List.mem_cons, List.not_mem_nil, or_false] at hm
          exact hc0 hm
          )]
        iterate 3 (refine zl_pureL rfl ?_)
        refine zl_nil ?_
        refine zk_seq ?_
        refine zc_ret ?_
        refine zk_ret_block ?_
        refine zk_ret_then ?_
        exact zk_ret1 (.inr rfl) rfl rfl ⟨rfl, rfl⟩
      · rw [Bool.true_or]
        iterate 4 (refine zl_pureL rfl ?_)
        refine zl_skip rfl ?_
        iterate 3 (refine zl_pureL rfl ?_)
        refine zl_nil ?_
        refine zk_seq ?_
        refine zc_ret ?_
        refine zk_ret_block ?_
        refine zk_ret_then ?_
        exact zk_ret1 (.inr rfl) rfl rfl ⟨rfl, rfl⟩
    · refine zc_seq ?_
      refine zc_region ?_
      refine zl_pureL rfl ?_
      refine zl_nil ?_
      refine zk_seq ?_
      refine zc_seq ?_
      refine zc_region ?_
      refine zl_pureL rfl ?_
      refine z_cmpB (r := false) want_none (by decide) rfl rfl rfl (iff_of_false Bool.false_ne_true (by omega)) ?_
      refine zl_pureL rfl ?_
      refine zl_nil ?_
      refine zk_seq ?_
      iterate 2 (refine zc_seq ?_)
      refine zc_region ?_
      refine zl_pureL rfl ?_
      refine zl_nil ?_
      refine zk_seq ?_
      refine zc_block ?_
      refine zc_seq ?_
      refine zc_region ?_
      refine z_cmpB (r := false) want_none (by decide) rfl rfl rfl (iff_of_false Bool.false_ne_true (by omega)) ?_
      refine zl_pureL rfl ?_
      refine zl_nil ?_
      refine zk_seq ?_
      refine zc_false rfl ?_
      refine zc_seq ?_
      refine zc_region ?_
      refine z_cmpB (r := false) want_none (by decide) rfl rfl rfl (iff_of_false Bool.false_ne_true (by omega)) ?_
      refine zl_pureL rfl ?_
      refine zl_nil ?_
      refine zk_seq ?_
      refine zc_false rfl ?_
      refine zc_seq ?_
      refine zc_region ?_
      refine z_cmpB (r := true) want_none (by decide) rfl rfl rfl (iff_of_true rfl (by omega)) ?_
      refine zl_pureL rfl ?_
      refine zl_nil ?_
      refine zk_seq ?_
      refine zc_true rfl ?_
      refine zc_seq ?_
      refine zc_region ?_
      iterate 2 (refine zl_pureL rfl ?_)
      refine zl_call (by first | exact want_none | exact want_L rfl) rfl (by decide) rfl (sAny_calls sp nm) ?_
      rintro _ u ⟨rfl, hu⟩
      obtain rfl := hu.symm
      refine ⟨_, rfl, ?_⟩
      rw [decide_eq_false hs, Bool.false_and, Bool.or_false]
      cases anyW sp nm
      · iterate 4 (refine zl_pureL rfl ?_)
        refine zl_skip rfl ?_
        iterate 3 (refine zl_pureL rfl ?_)
        refine zl_nil ?_
        refine zk_seq ?_
        refine zc_ret ?_
        refine zk_ret_block ?_
        refine zk_ret_then ?_
        exact zk_ret1 (.inr rfl) rfl rfl ⟨rfl, rfl⟩
      · iterate 4 (refine zl_pureL rfl ?_)
        refine zl_skip rfl ?_
        iterate 3 (refine zl_pureL rfl ?_)
        refine zl_nil ?_
        refine zk_seq ?_
        refine zc_ret ?_
        refine zk_ret_block ?_
        refine zk_ret_then ?_
        exact zk_ret1 (.inr rfl) rfl rfl ⟨rfl, rfl⟩
  rw [if_neg c3]
  by_cases c4 : sc = 4
  · subst c4
    rw [if_pos rfl]
    by_cases hs : sp = 1
    · subst hs
      rw [decide_eq_true (show (1 : Int) = 1 from rfl), Bool.true_and]
      refine zc_seq ?_
      refine zc_region ?_
      refine zl_pureL rfl ?_
      refine zl_nil ?_
      refine zk_seq ?_
      refine zc_seq ?_
      refine zc_region ?_
      refine zl_pureL rfl ?_
      refine z_cmpB (r := true) want_none (by decide) rfl rfl rfl (iff_of_true rfl (by omega)) ?_
      refine zl_pureL rfl ?_
      refine zl_nil ?_
      refine zk_seq ?_
      iterate 2 (refine zc_seq ?_)
      refine zc_region ?_
      refine zl_pureL rfl ?_
      refine zl_nil ?_
      refine zk_seq ?_
      refine zc_block ?_
      refine zc_seq ?_
      refine zc_region ?_
      refine z_cmpB (r := false) want_none (by decide) rfl rfl rfl (iff_of_false Bool.false_ne_true (by omega)) ?_
      refine zl_pureL rfl ?_
      refine zl_nil ?_
      refine zk_seq ?_
      refine zc_false rfl ?_
      refine zc_seq ?_
      refine zc_region ?_
      refine z_cmpB (r := false) want_none (by decide) rfl rfl rfl (iff_of_false Bool.false_ne_true (by omega)) ?_
      refine zl_pureL rfl ?_
      refine zl_nil ?_
      refine zk_seq ?_
      refine zc_false rfl ?_
      refine zc_seq ?_
      refine zc_region ?_
      refine z_cmpB (r := false) want_none (by decide) rfl rfl rfl (iff_of_false Bool.false_ne_true (by omega)) ?_
      refine zl_pureL rfl ?_
      refine zl_nil ?_
      refine zk_seq ?_
      refine zc_false rfl ?_
      refine zc_seq ?_
      refine zc_region ?_
      refine z_cmpB (r := true) want_none (by decide) rfl rfl rfl (iff_of_true rfl (by omega)) ?_
      refine zl_pureL rfl ?_
      refine zl_nil ?_
      refine zk_seq ?_
      refine zc_true rfl ?_
      refine zc_seq ?_
      refine zc_region ?_
      iterate 3 (refine zl_pureL rfl ?_)
      refine z_eqS (by first | exact want_none | exact want_L rfl) (by decide) rfl rfl (fun hc0 => ?_) (fun hc0 => ?_)
      · rw [memB_iff.2 (show nm ∈ walT by rw [hc0]; simp [walT])]
        iterate 2 (refine zl_pureL rfl ?_)
        refine zl_skip rfl ?_
        iterate 3 (refine zl_pureL rfl ?_)
        refine zl_skip rfl ?_
        iterate 3 (refine zl_pureL rfl ?_)
        refine zl_nil ?_
        refine zk_seq ?_
        refine zc_ret ?_
        refine zk_ret_block ?_
        refine zk_ret_then ?_
        exact zk_ret1 (.inr rfl) rfl rfl ⟨rfl, rfl⟩
      iterate 2 (refine zl_pureL rfl ?_)
      refine z_eqS (by first | exact want_none | exact want_L rfl) (by decide) rfl rfl (fun hc1 => ?_) (fun hc1 => ?_)
      · rw [memB_iff.2 (show nm ∈ walT by rw [hc1]; simp [walT])]
        iterate 3 (refine zl_pureL rfl ?_)
        refine zl_skip rfl ?_
        iterate 3 (refine zl_pureL rfl ?_)
        refine zl_nil ?_
        refine zk_seq ?_
        refine zc_ret ?_
        refine zk_ret_block ?_
        refine zk_ret_then ?_
        exact zk_ret1 (.inr rfl) rfl rfl ⟨rfl, rfl⟩
      iterate 3 (refine zl_pureL rfl ?_)
      refine z_eqS (by first | exact want_none | exact want_L rfl) (by decide) rfl rfl (fun hc2 => ?_) (fun hc2 => ?_)
      · rw [memB_iff.2 (show nm ∈ walT by rw [hc2]; simp [walT])]
        iterate 3 (refine zl_pureL rfl ?_)
        refine zl_nil ?_
        refine zk_seq ?_
        refine zc_ret ?_
        refine zk_ret_block ?_
        refine zk_ret_then ?_
        exact zk_ret1 (.inr rfl) rfl rfl ⟨rfl, rfl⟩
      rw [memB_no (fun hm => by
        simp only [walT, List.mem_cons, List.not_mem_nil, or_false] at hm
        rcases hm with hm | hm | hm
        · exact hc0 hm
        · exact hc1 hm
        · exact hc2 hm
        )]
      iterate 3 (refine zl_pureL rfl ?_)
      refine zl_nil ?_
      refine zk_seq ?_
      refine zc_ret ?_
      refine zk_ret_block ?_
      refine zk_ret_then ?_
      exact zk_ret1 (.inr rfl) rfl rfl ⟨rfl, rfl⟩
    · rw [decide_eq_false hs, Bool.false_and]
      refine zc_seq ?_
      refine zc_region ?_
      refine zl_pureL rfl ?_
      refine zl_nil ?_
      refine zk_seq ?_
      refine zc_seq ?_
      refine zc_region ?_
      refine zl_pureL rfl ?_
      refine z_cmpB (r := false) want_none (by decide) rfl rfl rfl (iff_of_false Bool.false_ne_true (by omega)) ?_
      refine zl_pureL rfl ?_
      refine zl_nil ?_
      refine zk_seq ?_
      iterate 2 (refine zc_seq ?_)
      refine zc_region ?_
      refine zl_pureL rfl ?_
      refine zl_nil ?_
      refine zk_seq ?_
      refine zc_block ?_
      refine zc_seq ?_
      refine zc_region ?_
      refine z_cmpB (r := false) want_none (by decide) rfl rfl rfl (iff_of_false Bool.false_ne_true (by omega)) ?_
      refine zl_pureL rfl ?_
      refine zl_nil ?_
      refine zk_seq ?_
      refine zc_false rfl ?_
      refine zc_seq ?_
      refine zc_region ?_
      refine z_cmpB (r := false) want_none (by decide) rfl rfl rfl (iff_of_false Bool.false_ne_true (by omega)) ?_
      refine zl_pureL rfl ?_
      refine zl_nil ?_
      refine zk_seq ?_
      refine zc_false rfl ?_
      refine zc_seq ?_
      refine zc_region ?_
      refine z_cmpB (r := false) want_none (by decide) rfl rfl rfl (iff_of_false Bool.false_ne_true (by omega)) ?_
      refine zl_pureL rfl ?_
      refine zl_nil ?_
      refine zk_seq ?_
      refine zc_false rfl ?_
      refine zc_seq ?_
      refine zc_region ?_
      refine z_cmpB (r := true) want_none (by decide) rfl rfl rfl (iff_of_true rfl (by omega)) ?_
      refine zl_pureL rfl ?_
      refine zl_nil ?_
      refine zk_seq ?_
      refine zc_true rfl ?_
      refine zc_seq ?_
      refine zc_region ?_
      iterate 3 (refine zl_pureL rfl ?_)
      refine zl_skip rfl ?_
      iterate 2 (refine zl_pureL rfl ?_)
      refine zl_skip rfl ?_
      iterate 3 (refine zl_pureL rfl ?_)
      refine zl_skip rfl ?_
      iterate 3 (refine zl_pureL rfl ?_)
      refine zl_nil ?_
      refine zk_seq ?_
      refine zc_ret ?_
      refine zk_ret_block ?_
      refine zk_ret_then ?_
      exact zk_ret1 (.inr rfl) rfl rfl ⟨rfl, rfl⟩
  rw [if_neg c4]
  by_cases hs : sp = 1
  · refine zc_seq ?_
    refine zc_region ?_
    refine zl_pureL rfl ?_
    refine zl_nil ?_
    refine zk_seq ?_
    refine zc_seq ?_
    refine zc_region ?_
    refine zl_pureL rfl ?_
    refine z_cmpB (r := true) want_none (by decide) rfl rfl rfl (iff_of_true rfl (by omega)) ?_
    refine zl_pureL rfl ?_
    refine zl_nil ?_
    refine zk_seq ?_
    iterate 2 (refine zc_seq ?_)
    refine zc_region ?_
    refine zl_pureL rfl ?_
    refine zl_nil ?_
    refine zk_seq ?_
    refine zc_block ?_
    refine zc_seq ?_
    refine zc_region ?_
    refine z_cmpB (r := false) want_none (by decide) rfl rfl rfl (iff_of_false Bool.false_ne_true (by omega)) ?_
    refine zl_pureL rfl ?_
    refine zl_nil ?_
    refine zk_seq ?_
    refine zc_false rfl ?_
    refine zc_seq ?_
    refine zc_region ?_
    refine z_cmpB (r := false) want_none (by decide) rfl rfl rfl (iff_of_false Bool.false_ne_true (by omega)) ?_
    refine zl_pureL rfl ?_
    refine zl_nil ?_
    refine zk_seq ?_
    refine zc_false rfl ?_
    refine zc_seq ?_
    refine zc_region ?_
    refine z_cmpB (r := false) want_none (by decide) rfl rfl rfl (iff_of_false Bool.false_ne_true (by omega)) ?_
    refine zl_pureL rfl ?_
    refine zl_nil ?_
    refine zk_seq ?_
    refine zc_false rfl ?_
    refine zc_seq ?_
    refine zc_region ?_
    refine z_cmpB (r := false) want_none (by decide) rfl rfl rfl (iff_of_false Bool.false_ne_true (by omega)) ?_
    refine zl_pureL rfl ?_
    refine zl_nil ?_
    refine zk_seq ?_
    refine zc_false rfl ?_
    refine zc_skip ?_
    refine zk_norm_block ?_
    refine zk_seq ?_
    refine zc_seq ?_
    refine zc_region ?_
    refine zl_pureL rfl ?_
    refine zl_nil ?_
    refine zk_seq ?_
    refine zc_ret ?_
    exact zk_ret1 (.inr rfl) rfl rfl ⟨rfl, rfl⟩
  · refine zc_seq ?_
    refine zc_region ?_
    refine zl_pureL rfl ?_
    refine zl_nil ?_
    refine zk_seq ?_
    refine zc_seq ?_
    refine zc_region ?_
    refine zl_pureL rfl ?_
    refine z_cmpB (r := false) want_none (by decide) rfl rfl rfl (iff_of_false Bool.false_ne_true (by omega)) ?_
    refine zl_pureL rfl ?_
    refine zl_nil ?_
    refine zk_seq ?_
    iterate 2 (refine zc_seq ?_)
    refine zc_region ?_
    refine zl_pureL rfl ?_
    refine zl_nil ?_
    refine zk_seq ?_
    refine zc_block ?_
    refine zc_seq ?_
    refine zc_region ?_
    refine z_cmpB (r := false) want_none (by decide) rfl rfl rfl (iff_of_false Bool.false_ne_true (by omega)) ?_
    refine zl_pureL rfl ?_
    refine zl_nil ?_
    refine zk_seq ?_
    refine zc_false rfl ?_
    refine zc_seq ?_
    refine zc_region ?_
    refine z_cmpB (r := false) want_none (by decide) rfl rfl rfl (iff_of_false Bool.false_ne_true (by omega)) ?_
    refine zl_pureL rfl ?_
    refine zl_nil ?_
    refine zk_seq ?_
    refine zc_false rfl ?_
    refine zc_seq ?_
    refine zc_region ?_
    refine z_cmpB (r := false) want_none (by decide) rfl rfl rfl (iff_of_false Bool.false_ne_true (by omega)) ?_
    refine zl_pureL rfl ?_
    refine zl_nil ?_
    refine zk_seq ?_
    refine zc_false rfl ?_
    refine zc_seq ?_
    refine zc_region ?_
    refine z_cmpB (r := false) want_none (by decide) rfl rfl rfl (iff_of_false Bool.false_ne_true (by omega)) ?_
    refine zl_pureL rfl ?_
    refine zl_nil ?_
    refine zk_seq ?_
    refine zc_false rfl ?_
    refine zc_skip ?_
    refine zk_norm_block ?_
    refine zk_seq ?_
    refine zc_seq ?_
    refine zc_region ?_
    refine zl_pureL rfl ?_
    refine zl_nil ?_
    refine zk_seq ?_
    refine zc_ret ?_
    exact zk_ret1 (.inr rfl) rfl rfl ⟨rfl, rfl⟩
end Go.Proofs.Yteeibieaapiomaa.D
/- SHas -/
/- A Site: Has, lastOf, Is. -/
namespace Go.Proofs.Yteeibieaapiomaa.D
open Go Go.Z Go.Proofs
set_option linter.unusedVariables false
def hasF (E : List Ent) (sc : Int) (ns : List ByteArray) : Nat → Bool
  | 0 => false
  | k + 1 => if isE (E.getD (k + 1) en0) ns = true then true else if wallW sc (E.getD (k + 1) en0).sp (E.getD (k + 1) en0).nm = true then false else hasF E sc ns k
def lastF (E : List Ent) (ns : List ByteArray) : Nat → Nat
  | 0 => 0
  | k + 1 => if isE (E.getD (k + 1) en0) ns = true then k + 1 else lastF E ns k
theorem hasF_succ (E : List Ent) (sc : Int) (ns : List ByteArray) (k : Nat) : hasF E sc ns (k + 1) = if isE (E.getD (k + 1) en0) ns = true then true else if wallW sc (E.getD (k + 1) en0).sp (E.getD (k + 1) en0).nm = true then false else hasF E sc ns k := rfl
theorem lastF_succ (E : List Ent) (ns : List ByteArray) (k : Nat) : lastF E ns (k + 1) = if isE (E.getD (k + 1) en0) ns = true then k + 1 else lastF E ns k := rfl
theorem lastF_le (E : List Ent) (ns : List ByteArray) : ∀ k, lastF E ns k ≤ k
  | 0 => Nat.le_refl _
  | k + 1 => by
    unfold lastF
    split
    · exact Nat.le_refl _
    · have := lastF_le E ns k; omega
def isNd (N : List ND) (n : Int) (ns : List ByteArray) : Bool := decide (n ≠ 0 ∧ (nodeOf N n).kind = 1 ∧ (nodeOf N n).space = 1) && memB (nodeOf N n).name ns
section
variable {w w' : World} {s : Nat} {q : SP} {E : List Ent} {I : List Bool} {m : ByteArray → Int} {N : List ND} {f : Bool}
set_option maxHeartbeats 8000000 in
theorem sHas_calls (h : IsS w s q E I m N f) {v : Value} {l : List ByteArray} (hN : NS w v l) (hl : l.length ≤ 1000000) (hE0 : 0 < E.length) (hE : E.length ≤ 1000000) (sc : Int) (hinv : ¬ someM m l → hasF E sc l (E.length - 1) = false) :
    Calls Try.prog 35 [.pointer (some ⟨s, 0, none⟩), .int .i64 sc, v].toArray w fun x w' => x = .returned (.bool (hasF E sc l (E.length - 1))) ∧ Chg w w' No := by
  obtain ⟨A, c, rfl, hc⟩ := hN.form
  have hb := h.blk
  refine calls_zc (n := 39) (f := 35) (fn := Try.f35) Try.func35 rfl rfl (by simp) ?_
  refine zc_seq ?_
  refine zc_region ?_
  refine zl_pureL rfl ?_
  refine zl_nil ?_
  refine zk_seq ?_
  iterate 2 (refine zc_seq ?_)
  refine zc_region ?_
  iterate 2 (refine zl_pureL rfl ?_)
  refine zl_call (by first | exact want_none | exact want_L rfl) rfl (by decide) rfl (sSome_calls h hN hl) ?_
  rintro _ u ⟨⟨q1, rfl, hq1⟩, hu⟩
  obtain rfl := hu.symm
  refine ⟨_, rfl, ?_⟩
  cases q1
  · rw [hinv (fun hh => absurd (hq1.2 hh) Bool.false_ne_true)]
    refine zl_pureL rfl ?_
    refine zl_nil ?_
    refine zk_seq ?_
    refine zc_true rfl ?_
    refine zc_seq ?_
    refine zc_region ?_
    refine zl_pureL rfl ?_
    refine zl_nil ?_
    refine zk_seq ?_
    refine zc_ret ?_
    refine zk_ret_then ?_
    exact zk_ret1 (.inr rfl) rfl rfl ⟨rfl, Chg.refl _ _⟩
  obtain ⟨Ao, co, hvo, hco⟩ := h.own.rd.form
  rw [hvo] at hb
  refine zl_pureL rfl ?_
  refine zl_nil ?_
  refine zk_seq ?_
  refine zc_false rfl ?_
  refine zc_skip ?_
  refine zk_seq ?_
  iterate 2 (refine zc_seq ?_)
  refine zc_region ?_
  iterate 2 (refine zl_pureL rfl ?_)
  refine z_fa want_none (by decide) rfl ?_
  refine z_loadB want_none (by decide) rfl (by assumption) (by rfl) ?_
  refine z_len want_none (by decide) rfl ?_
  refine z_sub want_none (by decide) rfl rfl (by omega) (by omega) ?_
  refine zl_pureL rfl ?_
  refine zl_nil ?_
  refine zk_seq ?_
  refine zc_block ?_
  refine zc_loopW (ι := Nat) (fun k u => [(0, .pointer (some ⟨s, 0, none⟩)), (1, .int .i64 sc), (2, .slice A l.length c), (7, .int .i64 k)]) (fun k u => k ≤ E.length - 1 ∧ hasF E sc l k = hasF E sc l (E.length - 1) ∧ Chg w u No) (fun k u => k) (E.length - 1) ⟨Nat.le_refl _, rfl, Chg.refl _ _⟩ ?_ ?_
  · exact ⟨rfl, rfl, rfl, get_int rfl (by omega), trivial⟩
  rintro k u ⟨hk, hf, hC⟩
  rw [← hf]
  cases k with
  | zero =>
    iterate 2 (refine zc_seq ?_)
    refine zc_region ?_
    refine zl_pureL rfl ?_
    refine z_cmpB (r := false) want_none (by decide) rfl rfl rfl (iff_of_false Bool.false_ne_true (by omega)) ?_
    refine zl_nil ?_
    refine zk_seq ?_
    refine zc_false rfl ?_
    refine zc_exit ?_
    iterate 2 (refine zk_exit_then ?_)
    refine zk_exit_block ?_
    refine zk_seq ?_
    refine zc_seq ?_
    refine zc_region ?_
    refine zl_pureL rfl ?_
    refine zl_nil ?_
    refine zk_seq ?_
    refine zc_ret ?_
    exact zk_ret1 (.inr rfl) rfl rfl ⟨rfl, hC⟩
  | succ k =>
    obtain ⟨b, o, c', hv, h0, h1, h2⟩ := (h.no hC).at_ (k + 1) (by omega)
    rw [hvo] at hv
    cases hv
    have hbu := hb.no hC
    rw [hasF_succ]
    obtain ⟨en, hen⟩ : ∃ en, en = E.getD (k + 1) en0 := ⟨_, rfl⟩
    rw [← hen] at h0 h1 h2 ⊢
    iterate 2 (refine zc_seq ?_)
    refine zc_region ?_
    refine zl_pureL rfl ?_
    refine z_cmpB (r := true) want_none (by decide) rfl rfl rfl (iff_of_true rfl (by omega)) ?_
    refine zl_nil ?_
    refine zk_seq ?_
    refine zc_true rfl ?_
    refine zc_skip ?_
    refine zk_seq ?_
    refine zc_seq ?_
    refine zc_block ?_
    refine zc_seq ?_
    refine zc_region ?_
    iterate 2 (refine zl_pureL rfl ?_)
    refine z_fa want_none (by decide) rfl ?_
    refine z_loadB want_none (by decide) rfl (by assumption) (by rfl) ?_
    refine zl_pureL rfl ?_
    refine z_ia want_none (by decide) rfl rfl (by omega) (by omega) ?_
    refine z_loadA (by rfl) (by first | exact want_none | exact want_L rfl) (by decide) rfl (agg3 h0 h1 h2 (by omega)) ?_
    refine z_alloc (by first | exact want_none | exact want_L rfl) (by decide) (fun u1 b1 hN1 => ?_)
    have hb1 : Blk u1 b1 74 [.int .i64 0, .int .i64 0, .string ⟨#[]⟩] := hN1.blk
    refine z_store (by first | exact want_none | exact want_L rfl) rfl rfl rfl (by assumption) (by first | exact Nat.le_refl _ | simp [Value.cells]) (by simp [Value.cells, Value.oneCell']) (fun u2 hU2 => ?_)
    have hb2 : Blk u2 b1 74 [.int .i64 en.n, .int .i64 en.sp, .string en.nm] := hU2.blk
    have hC2 : Chg u u2 No := hN1.chg.upd hU2 (hN1.ge (Chg.refl _ No))
    refine zl_nil ?_
    refine zk_seq ?_
    iterate 2 (refine zc_seq ?_)
    refine zc_region ?_
    refine z_loadAB want_none (by decide) rfl (by assumption) (by rfl) ?_
    refine zl_pureL rfl ?_
    refine zl_call (by first | exact want_none | exact want_L rfl) rfl (by decide) rfl (sEis_calls (hN.no (hC.no hC2)) hl en) ?_
    rintro _ u3 ⟨rfl, hC3⟩
    refine ⟨_, rfl, ?_⟩
    have hb3 := hb2.no hC3
    cases hi : isE en l
    · rw [if_neg Bool.false_ne_true]
      refine zl_nil ?_
      refine zk_seq ?_
      refine zc_false rfl ?_
      refine zc_skip ?_
      refine zk_seq ?_
      refine zc_seq ?_
      refine zc_region ?_
      refine zl_pureL rfl ?_
      refine z_fa want_none (by decide) rfl ?_
      refine z_loadB want_none (by decide) rfl (by assumption) (by rfl) ?_
      refine z_fa want_none (by decide) rfl ?_
      refine z_loadB want_none (by decide) rfl (by assumption) (by rfl) ?_
      refine zl_call (by first | exact want_none | exact want_L rfl) rfl (by decide) rfl (sWall_calls sc en.sp en.nm) ?_
      rintro _ u ⟨rfl, hu⟩
      obtain rfl := hu.symm
      refine ⟨_, rfl, ?_⟩
      cases hw : wallW sc en.sp en.nm
      · rw [if_neg Bool.false_ne_true]
        refine zl_nil ?_
        refine zk_seq ?_
        refine zc_false rfl ?_
        refine zc_skip ?_
        refine zk_norm_block ?_
        refine zk_seq ?_
        refine zc_region ?_
        refine zl_pureL rfl ?_
        refine z_sub want_none (by decide) rfl rfl (by omega) (by omega) ?_
        refine zl_pureL rfl ?_
        refine zl_nil ?_
        refine zk_loopW k ⟨by omega, ?_, (hC.no hC2).no hC3⟩ (by omega) ⟨rfl, rfl, rfl, get_int rfl (by omega), trivial⟩
        first | rfl | (rw [← hf, hasF_succ, ← hen, hi, if_neg Bool.false_ne_true, hw, if_neg Bool.false_ne_true])
      · rw [if_pos rfl]
        refine zl_nil ?_
        refine zk_seq ?_
        refine zc_true rfl ?_
        refine zc_seq ?_
        refine zc_region ?_
        refine zl_pureL rfl ?_
        refine zl_nil ?_
        refine zk_seq ?_
        refine zc_ret ?_
        refine zk_ret_block ?_
        iterate 2 (refine zk_ret_then ?_)
        refine zk_ret_block ?_
        refine zk_ret_then ?_
        exact zk_ret1 (.inr rfl) rfl rfl ⟨rfl, (hC.no hC2).no hC3⟩
    · rw [if_pos rfl]
      refine zl_nil ?_
      refine zk_seq ?_
      refine zc_true rfl ?_
      refine zc_seq ?_
      refine zc_region ?_
      refine zl_pureL rfl ?_
      refine zl_nil ?_
      refine zk_seq ?_
      refine zc_ret ?_
      refine zk_ret_then ?_
      refine zk_ret_block ?_
      iterate 2 (refine zk_ret_then ?_)
      refine zk_ret_block ?_
      refine zk_ret_then ?_
      exact zk_ret1 (.inr rfl) rfl rfl ⟨rfl, (hC.no hC2).no hC3⟩
set_option maxHeartbeats 8000000 in
theorem sLastOf_calls (h : IsS w s q E I m N f) {v : Value} {l : List ByteArray} (hN : NS w v l) (hl : l.length ≤ 1000000) (hE0 : 0 < E.length) (hE : E.length ≤ 1000000) (hinv : ¬ someM m l → lastF E l (E.length - 1) = 0) :
    Calls Try.prog 82 [.pointer (some ⟨s, 0, none⟩), v].toArray w fun x w' => x = .returned (.int .i64 (lastF E l (E.length - 1))) ∧ Chg w w' No := by
  obtain ⟨A, c, rfl, hc⟩ := hN.form
  have hb := h.blk
  refine calls_zc (n := 33) (f := 82) (fn := Try.f82) Try.func82 rfl rfl (by simp) ?_
  refine zc_seq ?_
  refine zc_region ?_
  refine zl_pureL rfl ?_
  refine zl_nil ?_
  refine zk_seq ?_
  iterate 2 (refine zc_seq ?_)
  refine zc_region ?_
  iterate 2 (refine zl_pureL rfl ?_)
  refine zl_call (by first | exact want_none | exact want_L rfl) rfl (by decide) rfl (sSome_calls h hN hl) ?_
  rintro _ u ⟨⟨q1, rfl, hq1⟩, hu⟩
  obtain rfl := hu.symm
  refine ⟨_, rfl, ?_⟩
  cases q1
  · rw [hinv (fun hh => absurd (hq1.2 hh) Bool.false_ne_true)]
    refine zl_pureL rfl ?_
    refine zl_nil ?_
    refine zk_seq ?_
    refine zc_true rfl ?_
    refine zc_seq ?_
    refine zc_region ?_
    refine zl_pureL rfl ?_
    refine zl_nil ?_
    refine zk_seq ?_
    refine zc_ret ?_
    refine zk_ret_then ?_
    exact zk_ret1 (.inr rfl) rfl rfl ⟨rfl, Chg.refl _ _⟩
  obtain ⟨Ao, co, hvo, hco⟩ := h.own.rd.form
  rw [hvo] at hb
  refine zl_pureL rfl ?_
  refine zl_nil ?_
  refine zk_seq ?_
  refine zc_false rfl ?_
  refine zc_skip ?_
  refine zk_seq ?_
  refine zc_seq ?_
  refine zc_region ?_
  iterate 2 (refine zl_pureL rfl ?_)
  refine z_fa want_none (by decide) rfl ?_
  refine z_loadB want_none (by decide) rfl (by assumption) (by rfl) ?_
  refine z_len want_none (by decide) rfl ?_
  refine z_sub want_none (by decide) rfl rfl (by omega) (by omega) ?_
  refine zl_pureL rfl ?_
  refine zl_nil ?_
  refine zk_seq ?_
  refine zc_seq ?_
  refine zc_block ?_
  refine zc_loopW (ι := Nat) (fun k u => [(0, .pointer (some ⟨s, 0, none⟩)), (1, .slice A l.length c), (5, .int .i64 k)]) (fun k u => k ≤ E.length - 1 ∧ lastF E l k = lastF E l (E.length - 1) ∧ Chg w u No) (fun k u => k) (E.length - 1) ⟨Nat.le_refl _, rfl, Chg.refl _ _⟩ ?_ ?_
  · exact ⟨rfl, rfl, get_int rfl (by omega), trivial⟩
  rintro k u ⟨hk, hf, hC⟩
  rw [← hf]
  cases k with
  | zero =>
    iterate 2 (refine zc_seq ?_)
    refine zc_region ?_
    refine zl_pureL rfl ?_
    refine z_cmpB (r := false) want_none (by decide) rfl rfl rfl (iff_of_false Bool.false_ne_true (by omega)) ?_
    iterate 3 (refine zl_pureL rfl ?_)
    iterate 2 (refine zl_skip rfl ?_)
    refine zl_pureL rfl ?_
    iterate 2 (refine zl_skip rfl ?_)
    refine zl_pureL rfl ?_
    refine zl_skip rfl ?_
    iterate 2 (refine zl_pureL rfl ?_)
    refine zl_nil ?_
    refine zk_seq ?_
    refine zc_false rfl ?_
    refine zc_exit ?_
    iterate 2 (refine zk_exit_then ?_)
    refine zk_exit_block ?_
    refine zk_seq ?_
    refine zc_seq ?_
    refine zc_region ?_
    iterate 2 (refine zl_pureL rfl ?_)
    refine zl_nil ?_
    refine zk_seq ?_
    refine zc_ret ?_
    exact zk_ret1 (.inr rfl) rfl rfl ⟨rfl, hC⟩
  | succ k =>
    obtain ⟨b, o, c', hv, h0, h1, h2⟩ := (h.no hC).at_ (k + 1) (by omega)
    rw [hvo] at hv
    cases hv
    have hbu := hb.no hC
    rw [lastF_succ]
    obtain ⟨en, hen⟩ : ∃ en, en = E.getD (k + 1) en0 := ⟨_, rfl⟩
    rw [← hen] at h0 h1 h2 ⊢
    iterate 2 (refine zc_seq ?_)
    refine zc_region ?_
    refine zl_pureL rfl ?_
    refine z_cmpB (r := true) want_none (by decide) rfl rfl rfl (iff_of_true rfl (by omega)) ?_
    iterate 3 (refine zl_pureL rfl ?_)
    refine z_fa (want_L rfl) (by decide) rfl ?_
    refine z_loadB (want_L rfl) (by decide) rfl (by assumption) (by rfl) ?_
    refine zl_pureL rfl ?_
    refine z_ia (want_L rfl) (by decide) rfl rfl (by omega) (by omega) ?_
    refine z_loadA (by rfl) (by first | exact want_none | exact want_L rfl) (by decide) rfl (agg3 h0 h1 h2 (by omega)) ?_
    refine zl_pureL rfl ?_
    refine zl_call (by first | exact want_none | exact want_L rfl) rfl (by decide) rfl (sEis_calls (hN.no hC) hl en) ?_
    rintro _ u3 ⟨rfl, hC3⟩
    refine ⟨_, rfl, ?_⟩
    cases hi : isE en l
    · rw [if_neg Bool.false_ne_true]
      iterate 2 (refine zl_pureL rfl ?_)
      refine zl_nil ?_
      refine zk_seq ?_
      refine zc_true rfl ?_
      refine zc_skip ?_
      refine zk_seq ?_
      refine zc_block ?_
      refine zc_region ?_
      refine zl_pureL rfl ?_
      refine z_sub want_none (by decide) rfl rfl (by omega) (by omega) ?_
      refine zl_pureL rfl ?_
      refine zl_nil ?_
      refine zk_norm_block ?_
      refine zk_loopW k ⟨by omega, ?_, hC.no hC3⟩ (by omega) ⟨rfl, rfl, get_int rfl (by omega), trivial⟩
      first | rfl | (rw [← hf, lastF_succ, ← hen, hi, if_neg Bool.false_ne_true])
    · rw [if_pos rfl]
      iterate 2 (refine zl_pureL rfl ?_)
      refine zl_nil ?_
      refine zk_seq ?_
      refine zc_false rfl ?_
      refine zc_exit ?_
      iterate 2 (refine zk_exit_then ?_)
      refine zk_exit_block ?_
      refine zk_seq ?_
      refine zc_seq ?_
      refine zc_region ?_
      iterate 2 (refine zl_pureL rfl ?_)
      refine zl_nil ?_
      refine zk_seq ?_
      refine zc_ret ?_
      exact zk_ret1 (.inr rfl) rfl rfl ⟨rfl, hC.no hC3⟩
set_option maxHeartbeats 8000000 in
theorem sIsN_calls (h : IsS w s q E I m N f) (hB : BigT N) {v : Value} {l : List ByteArray} (hN : NS w v l) (hl : l.length ≤ 1000000) (n : Int) :
    Calls Try.prog 81 [.pointer (some ⟨s, 0, none⟩), .int .i64 n, v].toArray w fun x w' => x = .returned (.bool (isNd N n l)) ∧ Chg w w' No := by
  obtain ⟨A, c, rfl, hc⟩ := hN.form
  have hb := h.blk
  refine calls_zc (n := 32) (f := 81) (fn := Try.f81) Try.func81 rfl rfl (by simp) ?_
  refine zc_seq ?_
  refine zc_region ?_
  refine zl_pureL rfl ?_
  refine zl_nil ?_
  refine zk_seq ?_
  refine zc_seq ?_
  refine zc_region ?_
  iterate 2 (refine zl_pureL rfl ?_)
  refine z_fa want_none (by decide) rfl ?_
  refine z_loadB want_none (by decide) rfl (by assumption) (by rfl) ?_
  refine zl_pureL rfl ?_
  refine zl_call (by first | exact want_none | exact want_L rfl) rfl (by decide) rfl (node_calls h.doc hB n) ?_
  rintro _ w2 ⟨va, rfl, hA2, _, hX2⟩
  refine ⟨_, rfl, ?_⟩
  obtain ⟨A4, c4, rfl, _⟩ := hA2.form
  skip
  refine z_alloc (by first | exact want_none | exact want_L rfl) (by decide) (fun w3 b3 hN3 => ?_)
  have hb3 : Blk w3 b3 52 [.int .i64 0, .int .i64 0, .string ⟨#[]⟩, .slice none 0 0, .string ⟨#[]⟩, .int .i64 0, .slice none 0 0] := hN3.blk
  refine z_store (by first | exact want_none | exact want_L rfl) rfl rfl rfl (by assumption) (by first | exact Nat.le_refl _ | simp [Value.cells]) (by simp [Value.cells, Value.oneCell']) (fun w4 hU4 => ?_)
  have hb4 : Blk w4 b3 52 [.int .i64 (nodeOf N n).kind, .int .i64 (nodeOf N n).space, .string (nodeOf N n).name, .slice A4 (nodeOf N n).attrs.length c4, .string (bs (nodeOf N n).text), .int .i64 0, .slice none 0 0] := hU4.blk
  have hC4 : Chg w w4 No := (hX2.no hN3.chg).upd hU4 (by have := hN3.at_; have := hX2.size; omega)
  unfold isNd
  obtain ⟨x, hx⟩ : ∃ x, x = nodeOf N n := ⟨_, rfl⟩
  rw [← hx] at hb4 ⊢
  by_cases h0 : n = 0
  · rw [decide_eq_false (show ¬ (n ≠ 0 ∧ x.kind = 1 ∧ x.space = 1) from fun hh => hh.1 h0), Bool.false_and]
    refine zl_nil ?_
    refine zk_seq ?_
    refine zc_seq ?_
    refine zc_region ?_
    refine zl_pureL rfl ?_
    refine z_cmpB (r := false) want_none (by decide) rfl rfl rfl (iff_of_false Bool.false_ne_true (by omega)) ?_
    refine zl_pureL rfl ?_
    iterate 3 (refine zl_skip rfl ?_)
    iterate 2 (refine zl_pureL rfl ?_)
    iterate 3 (refine zl_skip rfl ?_)
    iterate 3 (refine zl_pureL rfl ?_)
    iterate 3 (refine zl_skip rfl ?_)
    iterate 2 (refine zl_pureL rfl ?_)
    refine zl_nil ?_
    refine zk_seq ?_
    refine zc_ret ?_
    exact zk_ret1 (.inr rfl) rfl rfl ⟨rfl, hC4⟩
  by_cases h1 : x.kind = 1
  rotate_left
  · rw [decide_eq_false (show ¬ (n ≠ 0 ∧ x.kind = 1 ∧ x.space = 1) from fun hh => h1 hh.2.1), Bool.false_and]
    refine zl_nil ?_
    refine zk_seq ?_
    refine zc_seq ?_
    refine zc_region ?_
    refine zl_pureL rfl ?_
    refine z_cmpB (r := true) want_none (by decide) rfl rfl rfl (iff_of_true rfl (by omega)) ?_
    refine zl_pureL rfl ?_
    refine z_fa (want_L rfl) (by decide) rfl ?_
    refine z_loadB (want_L rfl) (by decide) rfl (by assumption) (by rfl) ?_
    refine z_cmpB (r := false) (want_L rfl) (by decide) rfl rfl rfl (iff_of_false Bool.false_ne_true (by omega)) ?_
    iterate 2 (refine zl_pureL rfl ?_)
    iterate 3 (refine zl_skip rfl ?_)
    iterate 3 (refine zl_pureL rfl ?_)
    iterate 3 (refine zl_skip rfl ?_)
    iterate 2 (refine zl_pureL rfl ?_)
    refine zl_nil ?_
    refine zk_seq ?_
    refine zc_ret ?_
    exact zk_ret1 (.inr rfl) rfl rfl ⟨rfl, hC4⟩
  by_cases h2 : x.space = 1
  rotate_left
  · rw [decide_eq_false (show ¬ (n ≠ 0 ∧ x.kind = 1 ∧ x.space = 1) from fun hh => h2 hh.2.2), Bool.false_and]
    refine zl_nil ?_
    refine zk_seq ?_
    refine zc_seq ?_
    refine zc_region ?_
    refine zl_pureL rfl ?_
    refine z_cmpB (r := true) want_none (by decide) rfl rfl rfl (iff_of_true rfl (by omega)) ?_
    refine zl_pureL rfl ?_
    refine z_fa (want_L rfl) (by decide) rfl ?_
    refine z_loadB (want_L rfl) (by decide) rfl (by assumption) (by rfl) ?_
    refine z_cmpB (r := true) (want_L rfl) (by decide) rfl rfl rfl (iff_of_true rfl (by omega)) ?_
    iterate 2 (refine zl_pureL rfl ?_)
    refine z_fa (want_L rfl) (by decide) rfl ?_
    refine z_loadB (want_L rfl) (by decide) rfl (by assumption) (by rfl) ?_
    refine z_cmpB (r := false) (want_L rfl) (by decide) rfl rfl rfl (iff_of_false Bool.false_ne_true (by omega)) ?_
    iterate 3 (refine zl_pureL rfl ?_)
    iterate 3 (refine zl_skip rfl ?_)
    iterate 2 (refine zl_pureL rfl ?_)
    refine zl_nil ?_
    refine zk_seq ?_
    refine zc_ret ?_
    exact zk_ret1 (.inr rfl) rfl rfl ⟨rfl, hC4⟩
  rw [decide_eq_true (show n ≠ 0 ∧ x.kind = 1 ∧ x.space = 1 from ⟨h0, h1, h2⟩), Bool.true_and]
  refine zl_nil ?_
  refine zk_seq ?_
  refine zc_seq ?_
  refine zc_region ?_
  refine zl_pureL rfl ?_
  refine z_cmpB (r := true) want_none (by decide) rfl rfl rfl (iff_of_true rfl (by omega)) ?_
  refine zl_pureL rfl ?_
  refine z_fa (want_L rfl) (by decide) rfl ?_
  refine z_loadB (want_L rfl) (by decide) rfl (by assumption) (by rfl) ?_
  refine z_cmpB (r := true) (want_L rfl) (by decide) rfl rfl rfl (iff_of_true rfl (by omega)) ?_
  iterate 2 (refine zl_pureL rfl ?_)
  refine z_fa (want_L rfl) (by decide) rfl ?_
  refine z_loadB (want_L rfl) (by decide) rfl (by assumption) (by rfl) ?_
  refine z_cmpB (r := true) (want_L rfl) (by decide) rfl rfl rfl (iff_of_true rfl (by omega)) ?_
  iterate 3 (refine zl_pureL rfl ?_)
  refine z_fa (want_L rfl) (by decide) rfl ?_
  refine z_loadB (want_L rfl) (by decide) rfl (by assumption) (by rfl) ?_
  refine zl_call (by first | exact want_none | exact want_L rfl) rfl (by decide) rfl (sContains_calls (hN.no hC4) hl x.name) ?_
  rintro _ u ⟨rfl, hu⟩
  obtain rfl := hu.symm
  refine ⟨_, rfl, ?_⟩
  cases memB x.name l
  · iterate 2 (refine zl_pureL rfl ?_)
    refine zl_nil ?_
    refine zk_seq ?_
    refine zc_ret ?_
    exact zk_ret1 (.inr rfl) rfl rfl ⟨rfl, hC4⟩
  · iterate 2 (refine zl_pureL rfl ?_)
    refine zl_nil ?_
    refine zk_seq ?_
    refine zc_ret ?_
    exact zk_ret1 (.inr rfl) rfl rfl ⟨rfl, hC4⟩
end
end Go.Proofs.Yteeibieaapiomaa.D
/- SSpot -/
/- A Site: where things go; Add, Type. -/
namespace Go.Proofs.Yteeibieaapiomaa.D
open Go Go.Z Go.Proofs
set_option linter.unusedVariables false
def sTab : List ByteArray := [⟨#[116, 97, 98, 108, 101]⟩]
def sTem : List ByteArray := [⟨#[116, 101, 109, 112, 108, 97, 116, 101]⟩]
def sFive : List ByteArray := [⟨#[116, 97, 98, 108, 101]⟩, ⟨#[116, 98, 111, 100, 121]⟩, ⟨#[116, 102, 111, 111, 116]⟩, ⟨#[116, 104, 101, 97, 100]⟩, ⟨#[116, 114]⟩]
def fosN (N : List ND) (E : List Ent) : Int × Int :=
  if lastF E sTab (E.length - 1) < lastF E sTem (E.length - 1) then ((E.getD (lastF E sTem (E.length - 1)) en0).n, -1)
  else if lastF E sTab (E.length - 1) = 0 then (0, -1)
  else if 0 ≤ upOf N (E.getD (lastF E sTab (E.length - 1)) en0).n then (upOf N (E.getD (lastF E sTab (E.length - 1)) en0).n, (E.getD (lastF E sTab (E.length - 1)) en0).n)
  else ((E.getD (lastF E sTab (E.length - 1) - 1) en0).n, -1)
def spotN (N : List ND) (E : List Ent) (f : Bool) (n : Int) : Int × Int := if f = true ∧ isNd N n sFive = true then fosN N E else (n, -1)
section
variable {w w' : World} {s : Nat} {q : SP} {E : List Ent} {I : List Bool} {m : ByteArray → Int} {N : List ND} {f : Bool}
theorem sFoster_calls (h : IsS w s q E I m N f) (b : Bool) : Calls Try.prog 37 [.pointer (some ⟨s, 0, none⟩), .bool b].toArray w fun x w' => x = .returned (.tuple #[]) ∧ IsS w' s q E I m N b ∧ WrS w w' s q q := by
  have hb := h.blk
  refine calls_zc (n := 8) (f := 37) (fn := Try.f37) Try.func37 rfl rfl (by simp) ?_
  refine zc_region ?_
  iterate 3 (refine zl_pureL rfl ?_)
  refine z_fa want_none (by decide) rfl ?_
  refine z_store (by first | exact want_none | exact want_L rfl) rfl rfl rfl (by assumption) (by first | exact Nat.le_refl _ | simp [Value.cells]) (by simp [Value.cells, Value.oneCell']) (fun w1 hU1 => ?_)
  refine zl_nil ?_
  exact zk_ret0 (.inl rfl) rfl ⟨rfl, h.blkW hU1 h.own h.iso, ⟨hU1.chg.mono (fun k _ hk => .inl hk), fun _ h => .inl h⟩⟩
set_option maxRecDepth 100000 in
set_option maxHeartbeats 16000000 in
theorem sSpot_calls (h : IsS w s q E I m N f) (hB : BigT N) (hE0 : 0 < E.length) (hE : E.length ≤ 1000000) (hinv : ∀ l, ¬ someM m l → lastF E l (E.length - 1) = 0) (n : Int) :
    Calls Try.prog 42 [.pointer (some ⟨s, 0, none⟩), .int .i64 n].toArray w fun x w' => x = .returned (.tuple #[.int .i64 (spotN N E f n).1, .int .i64 (spotN N E f n).2]) ∧ Chg w w' No := by
  have hb := h.blk
  obtain ⟨Ao, co, hvo, hco⟩ := h.own.rd.form
  rw [hvo] at hb
  refine calls_zc (n := 71) (f := 42) (fn := Try.f42) Try.func42 rfl rfl (by simp) ?_
  unfold spotN
  cases f
  · rw [if_neg (fun hh => absurd hh.1 Bool.false_ne_true)]
    refine zc_seq ?_
    refine zc_region ?_
    iterate 2 (refine zl_pureL rfl ?_)
    refine zl_nil ?_
    refine zk_seq ?_
    iterate 2 (refine zc_seq ?_)
    refine zc_region ?_
    iterate 2 (refine zl_pureL rfl ?_)
    refine z_fa want_none (by decide) rfl ?_
    refine z_loadB want_none (by decide) rfl (by assumption) (by rfl) ?_
    iterate 4 (refine zl_pureL rfl ?_)
    iterate 2 (refine zl_skip rfl ?_)
    iterate 2 (refine zl_pureL rfl ?_)
    refine zl_nil ?_
    refine zk_seq ?_
    refine zc_true rfl ?_
    refine zc_seq ?_
    refine zc_region ?_
    iterate 3 (refine zl_pureL rfl ?_)
    refine zl_nil ?_
    refine zk_seq ?_
    refine zc_ret ?_
    refine zk_ret_then ?_
    exact zk_ret2 (.inr rfl) rfl rfl rfl ⟨rfl, Chg.refl _ _⟩
  refine zc_seq ?_
  refine zc_region ?_
  iterate 2 (refine zl_pureL rfl ?_)
  refine zl_nil ?_
  refine zk_seq ?_
  iterate 2 (refine zc_seq ?_)
  refine zc_region ?_
  iterate 2 (refine zl_pureL rfl ?_)
  refine z_fa want_none (by decide) rfl ?_
  refine z_loadB want_none (by decide) rfl (by assumption) (by rfl) ?_
  iterate 4 (refine zl_pureL rfl ?_)
  refine z_bsE (nmsC sFive) (by first | exact want_none | exact want_L rfl) (by decide) rfl (by decide) (by decide) (by kernel_rfl) (fun w1 b1 hN1 => ?_)
  have hn1 : NS w1 (.slice (some ⟨b1, 0, none⟩) 5 5) sFive := RdS.new hN1 rfl (nmsC_one _)
  have h1 := h.no hN1.chg
  skip
  refine zl_call (by first | exact want_none | exact want_L rfl) rfl (by decide) rfl (sIsN_calls h1 hB hn1 (by decide) n) ?_
  rintro _ w2 ⟨rfl, hC2⟩
  have hC02 : Chg w w2 No := hN1.chg.no hC2
  refine ⟨_, rfl, ?_⟩
  cases hisn : isNd N n sFive
  · rw [if_neg (fun hh => absurd hh.2 Bool.false_ne_true)]
    iterate 2 (refine zl_pureL rfl ?_)
    refine zl_nil ?_
    refine zk_seq ?_
    refine zc_true rfl ?_
    refine zc_seq ?_
    refine zc_region ?_
    iterate 3 (refine zl_pureL rfl ?_)
    refine zl_nil ?_
    refine zk_seq ?_
    refine zc_ret ?_
    refine zk_ret_then ?_
    exact zk_ret2 (.inr rfl) rfl rfl rfl ⟨rfl, hC02⟩
  rw [if_pos ⟨rfl, rfl⟩]
  iterate 2 (refine zl_pureL rfl ?_)
  refine zl_nil ?_
  refine zk_seq ?_
  refine zc_false rfl ?_
  refine zc_skip ?_
  refine zk_seq ?_
  refine zc_seq ?_
  refine zc_region ?_
  refine zl_pureL rfl ?_
  refine z_bsE (nmsC sTab) (by first | exact want_none | exact want_L rfl) (by decide) rfl (by decide) (by decide) (by kernel_rfl) (fun w3 b3 hN3 => ?_)
  have hn3 : NS w3 (.slice (some ⟨b3, 0, none⟩) 1 1) sTab := RdS.new hN3 rfl (nmsC_one _)
  have hC03 := hC02.no hN3.chg
  skip
  refine zl_call (by first | exact want_none | exact want_L rfl) rfl (by decide) rfl (sLastOf_calls (h.no hC03) hn3 (by decide) hE0 hE (hinv _)) ?_
  rintro _ w4 ⟨rfl, hC4⟩
  have hC04 := hC03.no hC4
  refine ⟨_, rfl, ?_⟩
  refine zl_pureL rfl ?_
  refine z_bsE (nmsC sTem) (by first | exact want_none | exact want_L rfl) (by decide) rfl (by decide) (by decide) (by kernel_rfl) (fun w5 b5 hN5 => ?_)
  have hn5 : NS w5 (.slice (some ⟨b5, 0, none⟩) 1 1) sTem := RdS.new hN5 rfl (nmsC_one _)
  have hC05 := hC04.no hN5.chg
  skip
  refine zl_call (by first | exact want_none | exact want_L rfl) rfl (by decide) rfl (sLastOf_calls (h.no hC05) hn5 (by decide) hE0 hE (hinv _)) ?_
  rintro _ w6 ⟨rfl, hC6⟩
  have hC06 := hC05.no hC6
  refine ⟨_, rfl, ?_⟩
  unfold fosN
  have hl1 := lastF_le E sTab (E.length - 1)
  have hl2 := lastF_le E sTem (E.length - 1)
  obtain ⟨a, ha⟩ : ∃ a, a = lastF E sTab (E.length - 1) := ⟨_, rfl⟩
  obtain ⟨t, ht⟩ : ∃ t, t = lastF E sTem (E.length - 1) := ⟨_, rfl⟩
  rw [← ha] at hl1 ⊢
  rw [← ht] at hl2 ⊢
  have hb6 := hb.no hC06
  by_cases hat : a < t
  · rw [if_pos hat]
    obtain ⟨b, o, c', hv, h0, _, _⟩ := (h.no hC06).at_ t (by omega)
    rw [hvo] at hv
    cases hv
    iterate 2 (refine zl_pureL rfl ?_)
    refine zl_nil ?_
    refine zk_seq ?_
    refine zc_seq ?_
    refine zc_block ?_
    refine zc_seq ?_
    refine zc_region ?_
    iterate 2 (refine zl_pureL rfl ?_)
    refine z_cmpB (r := true) want_none (by decide) rfl rfl rfl (iff_of_true rfl (by omega)) ?_
    refine zl_pureL rfl ?_
    refine zl_nil ?_
    refine zk_seq ?_
    refine zc_true rfl ?_
    refine zc_seq ?_
    refine zc_region ?_
    iterate 2 (refine zl_pureL rfl ?_)
    refine z_fa want_none (by decide) rfl ?_
    refine z_loadB want_none (by decide) rfl (by assumption) (by rfl) ?_
    refine zl_pureL rfl ?_
    refine z_ia want_none (by decide) rfl rfl (by omega) (by omega) ?_
    refine z_fa want_none (by decide) rfl ?_
    refine z_load1 want_none (by decide) rfl (by assumption) ?_
    iterate 2 (refine zl_pureL rfl ?_)
    refine zl_nil ?_
    refine zk_seq ?_
    refine zc_ret ?_
    refine zk_ret_block ?_
    refine zk_ret_then ?_
    exact zk_ret2 (.inr rfl) rfl rfl rfl ⟨rfl, hC06⟩
  rw [if_neg hat]
  by_cases ha0 : a = 0
  · rw [if_pos ha0]
    iterate 2 (refine zl_pureL rfl ?_)
    refine zl_nil ?_
    refine zk_seq ?_
    refine zc_seq ?_
    refine zc_block ?_
    refine zc_seq ?_
    refine zc_region ?_
    iterate 2 (refine zl_pureL rfl ?_)
    refine z_cmpB (r := false) want_none (by decide) rfl rfl rfl (iff_of_false Bool.false_ne_true (by omega)) ?_
    refine zl_pureL rfl ?_
    refine zl_nil ?_
    refine zk_seq ?_
    refine zc_false rfl ?_
    refine zc_seq ?_
    refine zc_region ?_
    refine zl_pureL rfl ?_
    refine z_cmpB (r := true) want_none (by decide) rfl rfl rfl (iff_of_true rfl (by omega)) ?_
    refine zl_pureL rfl ?_
    refine zl_nil ?_
    refine zk_seq ?_
    refine zc_true rfl ?_
    refine zc_seq ?_
    refine zc_region ?_
    iterate 2 (refine zl_pureL rfl ?_)
    refine zl_nil ?_
    refine zk_seq ?_
    refine zc_ret ?_
    refine zk_ret_block ?_
    refine zk_ret_then ?_
    exact zk_ret2 (.inr rfl) rfl rfl rfl ⟨rfl, hC06⟩
  rw [if_neg ha0]
  obtain ⟨b, o, c', hv, h0, _, _⟩ := (h.no hC06).at_ a (by omega)
  rw [hvo] at hv
  cases hv
  iterate 2 (refine zl_pureL rfl ?_)
  refine zl_nil ?_
  refine zk_seq ?_
  refine zc_seq ?_
  refine zc_block ?_
  refine zc_seq ?_
  refine zc_region ?_
  iterate 2 (refine zl_pureL rfl ?_)
  refine z_cmpB (r := false) want_none (by decide) rfl rfl rfl (iff_of_false Bool.false_ne_true (by omega)) ?_
  refine zl_pureL rfl ?_
  refine zl_nil ?_
  refine zk_seq ?_
  refine zc_false rfl ?_
  refine zc_seq ?_
  refine zc_region ?_
  refine zl_pureL rfl ?_
  refine z_cmpB (r := false) want_none (by decide) rfl rfl rfl (iff_of_false Bool.false_ne_true (by omega)) ?_
  refine zl_pureL rfl ?_
  refine zl_nil ?_
  refine zk_seq ?_
  refine zc_false rfl ?_
  refine zc_skip ?_
  refine zk_norm_block ?_
  refine zk_seq ?_
  refine zc_seq ?_
  refine zc_region ?_
  iterate 2 (refine zl_pureL rfl ?_)
  refine z_fa want_none (by decide) rfl ?_
  refine z_loadB want_none (by decide) rfl (by assumption) (by rfl) ?_
  refine zl_pureL rfl ?_
  refine z_ia want_none (by decide) rfl rfl (by omega) (by omega) ?_
  refine z_fa want_none (by decide) rfl ?_
  refine z_load1 want_none (by decide) rfl (by assumption) ?_
  refine zl_pureL rfl ?_
  refine zl_nil ?_
  refine zk_seq ?_
  iterate 2 (refine zc_seq ?_)
  refine zc_region ?_
  iterate 2 (refine zl_pureL rfl ?_)
  refine z_fa want_none (by decide) rfl ?_
  refine z_loadB want_none (by decide) rfl (by assumption) (by rfl) ?_
  refine zl_pureL rfl ?_
  refine zl_call (by first | exact want_none | exact want_L rfl) rfl (by decide) rfl (up_calls (h.no hC06).doc (E.getD a en0).n) ?_
  rintro _ u ⟨rfl, hu⟩
  obtain rfl := hu.symm
  refine ⟨_, rfl, ?_⟩
  obtain ⟨up, hup⟩ : ∃ up, up = upOf N (E.getD a en0).n := ⟨_, rfl⟩
  rw [← hup]
  by_cases hu0 : 0 ≤ up
  · rw [if_pos hu0]
    refine zl_pureL rfl ?_
    refine zl_nil ?_
    refine zk_seq ?_
    refine zc_seq ?_
    refine zc_region ?_
    refine zl_pureL rfl ?_
    refine z_cmpB (r := true) want_none (by decide) rfl rfl rfl (iff_of_true rfl (by omega)) ?_
    refine zl_nil ?_
    refine zk_seq ?_
    refine zc_true rfl ?_
    refine zc_seq ?_
    refine zc_region ?_
    iterate 4 (refine zl_pureL rfl ?_)
    refine zl_nil ?_
    refine zk_seq ?_
    refine zc_ret ?_
    refine zk_ret_then ?_
    exact zk_ret2 (.inr rfl) rfl rfl rfl ⟨rfl, hC06⟩
  · rw [if_neg hu0]
    obtain ⟨b', o', c'', hv', h0', _, _⟩ := (h.no hC06).at_ (a - 1) (by omega)
    rw [hvo] at hv'
    cases hv'
    refine zl_pureL rfl ?_
    refine zl_nil ?_
    refine zk_seq ?_
    refine zc_seq ?_
    refine zc_region ?_
    refine zl_pureL rfl ?_
    refine z_cmpB (r := false) want_none (by decide) rfl rfl rfl (iff_of_false Bool.false_ne_true (by omega)) ?_
    refine zl_nil ?_
    refine zk_seq ?_
    refine zc_false rfl ?_
    refine zc_skip ?_
    refine zk_seq ?_
    refine zc_seq ?_
    refine zc_region ?_
    iterate 2 (refine zl_pureL rfl ?_)
    refine z_fa want_none (by decide) rfl ?_
    refine z_loadB want_none (by decide) rfl (by assumption) (by rfl) ?_
    refine zl_pureL rfl ?_
    refine z_sub want_none (by decide) rfl rfl (by omega) (by omega) ?_
    refine z_ia want_none (by decide) rfl rfl (by omega) (by omega) ?_
    refine z_fa want_none (by decide) rfl ?_
    refine z_load1 (by first | exact want_none | exact want_L rfl) (by decide) rfl (cell_at h0' (by omega)) ?_
    iterate 2 (refine zl_pureL rfl ?_)
    refine zl_nil ?_
    refine zk_seq ?_
    refine zc_ret ?_
    exact zk_ret2 (.inr rfl) rfl rfl rfl ⟨rfl, hC06⟩
end
end Go.Proofs.Yteeibieaapiomaa.D
/- SInv -/
/- What stays true of a Site. -/
namespace Go.Proofs.Yteeibieaapiomaa.D
open Go Go.Z Go.Proofs
set_option linter.unusedVariables false
def isK (k : ByteArray) (e : Ent) : Bool := decide (e.sp = 1 ∧ e.nm = k)
def cntL (T : List Ent) (k : ByteArray) : Int := (T.countP (isK k) : Nat)
def sameK (N N' : List ND) : Prop := N.length ≤ N'.length ∧ ∀ i, i < N.length → (N'.getD i n0).kind = (N.getD i n0).kind ∧ (N'.getD i n0).space = (N.getD i n0).space ∧ (N'.getD i n0).name = (N.getD i n0).name
theorem sameK.refl (N : List ND) : sameK N N := ⟨Nat.le_refl _, fun _ _ => ⟨rfl, rfl, rfl⟩⟩
theorem sameK.trans {a b c : List ND} (h : sameK a b) (k : sameK b c) : sameK a c := ⟨Nat.le_trans h.1 k.1, fun i hi => by
  obtain ⟨h1, h2, h3⟩ := h.2 i hi
  obtain ⟨k1, k2, k3⟩ := k.2 i (Nat.lt_of_lt_of_le hi h.1)
  exact ⟨k1.trans h1, k2.trans h2, k3.trans h3⟩⟩
theorem sameK.snoc (N : List ND) (x : ND) : sameK N (N ++ [x]) := ⟨by simp, fun i hi => by rw [getD_add, if_neg (by omega)]; exact ⟨rfl, rfl, rfl⟩⟩
theorem sameK.set {N M : List ND} (h : sameK N M) (i : Nat) {x : ND} (h1 : x.kind = (M.getD i n0).kind) (h2 : x.space = (M.getD i n0).space) (h3 : x.name = (M.getD i n0).name) : sameK N (M.set i x) := ⟨by rw [List.length_set]; exact h.1, fun j hj => by
  have hjM : j < M.length := Nat.lt_of_lt_of_le hj h.1
  rcases Nat.lt_or_ge i M.length with hi | hi
  · rw [getD_set _ _ _ _ _ hi]
    split
    · rename_i hji; subst hji
      obtain ⟨g1, g2, g3⟩ := h.2 j hj
      exact ⟨h1.trans g1, h2.trans g2, h3.trans g3⟩
    · exact h.2 j hj
  · rw [List.set_eq_of_length_le hi]; exact h.2 j hj⟩
theorem sameK_lay (N : List ND) (n up a : Nat) (hne : n ≠ up) : sameK N (layN N n up a) := by
  unfold layN
  refine sameK.set (sameK.set (sameK.refl N) up (by rfl) (by rfl) (by rfl)) n ?_ ?_ ?_ <;>
    (rcases Nat.lt_or_ge up N.length with hi | hi
     · rw [getD_set _ _ _ _ _ hi, if_neg hne]
     · rw [List.set_eq_of_length_le hi])
theorem PutR.sameK {N N' : List ND} {n up ahead : Int} {q : Bool} (h : PutR N n up ahead q N') (hW : WF N) : sameK N N' := by
  by_cases ho : PutOk N n up ahead
  · rw [(h.1 ho).2]
    obtain ⟨h1, h2, h3, h4, h5, h6, h7⟩ := ho
    exact sameK_lay _ _ _ _ (fun he => h6 (he ▸ Anc.refl _))
  · rw [(h.2 ho).2]; exact D.sameK.refl N
theorem writeN_sameK (N : List ND) (s : List UInt8) (up a : Nat) (hup : up < N.length) : D.sameK N (writeN N s up a) := by
  unfold writeN
  split
  · exact D.sameK.refl N
  · split
    · exact (D.sameK.refl N).set _ (by rfl) (by rfl) (by rfl)
    · exact (D.sameK.snoc N _).trans (sameK_lay _ _ _ _ (by omega))
theorem WriteR.sameK {N N' : List ND} {s : List UInt8} {up ahead : Int} {q : Bool} (h : WriteR N s up ahead q N') : D.sameK N N' := by
  by_cases ho : WriteOk N up ahead
  · rw [(h.1 ho).2]
    have h1 := ho.1
    exact writeN_sameK _ _ _ _ (by have := h1.1; have := h1.2; omega)
  · rw [(h.2 ho).2]; exact D.sameK.refl N
structure Inv (E : List Ent) (I : List Bool) (m : ByteArray → Int) (N : List ND) : Prop where
  pos : 0 < E.length
  root : E.getD 0 en0 = en0
  nd : (E.map Ent.n).Nodup
  el : ∀ e ∈ E, e.n < N.length ∧ e = entN N e.n ∧ (N.getD e.n n0).kind = 1
  io : ∀ n, I.getD n false = true ↔ n ∈ E.map Ent.n
  il : I.length ≤ N.length
  cn : ∀ k, m k = cntL E.tail k
section
variable {E : List Ent} {I : List Bool} {m : ByteArray → Int} {N N' : List ND}
theorem Inv.elen (h : Inv E I m N) : E.length ≤ N.length := by
  have := nodup_le N.length (E.map Ent.n) h.nd (fun k hk => by obtain ⟨e, he, rfl⟩ := List.mem_map.1 hk; exact (h.el e he).1)
  simpa using this
theorem Inv.small (h : Inv E I m N) (hN : N.length ≤ 900000) : SmallM m := fun k => by
  rw [h.cn]
  have h1 := h.elen
  have h2 : E.tail.countP (isK k) ≤ E.tail.length := List.countP_le_length
  rw [List.length_tail] at h2
  unfold cntL
  omega
theorem Inv.nodes (h : Inv E I m N) (hK : sameK N N') : Inv E I m N' :=
  ⟨h.pos, h.root, h.nd, fun e he => by
    obtain ⟨h1, h2, h3⟩ := h.el e he
    obtain ⟨k1, k2, k3⟩ := hK.2 e.n h1
    refine ⟨Nat.lt_of_lt_of_le h1 hK.1, ?_, k1.trans h3⟩
    rw [h2]
    unfold entN
    dsimp only
    rw [k2, k3], h.io, Nat.le_trans h.il hK.1, h.cn⟩
theorem Inv.opn (h : Inv E I m N) (n : Nat) : opn I n ↔ n ∈ E.map Ent.n := by
  rw [← h.io]
  unfold D.opn
  refine ⟨fun hh => by have := hh.2.2; simpa using this, fun hh => ⟨by omega, ?_, by simpa using hh⟩⟩
  rcases Nat.lt_or_ge n I.length with h1 | h1
  · omega
  · rw [List.getD_eq_getElem?_getD, List.getElem?_eq_none h1] at hh; cases hh
theorem tail_getD (E : List Ent) (k : Nat) (h : k + 1 < E.length) : E.getD (k + 1) en0 ∈ E.tail := by
  cases E with
  | nil => simp at h
  | cons a r =>
    rw [List.getD_cons_succ, List.tail_cons]
    exact getD_mem (by simpa using h)
theorem Inv.some_of (h : Inv E I m N) {e : Ent} (he : e ∈ E.tail) {l : List ByteArray} (hi : isE e l = true) : someM m l := by
  unfold isE at hi
  rw [Bool.and_eq_true, decide_eq_true_eq, memB_iff] at hi
  refine ⟨e.nm, hi.2, ?_⟩
  rw [h.cn]
  unfold cntL
  have : 0 < E.tail.countP (isK e.nm) := List.countP_pos_iff.2 ⟨e, he, by unfold isK; simp [hi.1.2]⟩
  omega
theorem Inv.hno (h : Inv E I m N) {l : List ByteArray} (hs : ¬ someM m l) (sc : Int) : ∀ k, k < E.length → hasF E sc l k = false
  | 0, _ => rfl
  | k + 1, hk => by
    rw [hasF_succ]
    rw [if_neg (fun hi => hs (h.some_of (tail_getD E k hk) hi))]
    split
    · rfl
    · exact h.hno hs sc k (by omega)
theorem Inv.lno (h : Inv E I m N) {l : List ByteArray} (hs : ¬ someM m l) : ∀ k, k < E.length → lastF E l k = 0
  | 0, _ => rfl
  | k + 1, hk => by
    rw [lastF_succ]
    rw [if_neg (fun hi => hs (h.some_of (tail_getD E k hk) hi))]
    exact h.lno hs k (by omega)
theorem comI_get (I : List Bool) (n j : Nat) : (comI I n).getD j false = if j = n then true else I.getD j false := by
  unfold comI
  rw [getD_set _ _ _ _ _ (by simp; omega)]
  split
  · rfl
  · rw [List.getD_eq_getElem?_getD, List.getD_eq_getElem?_getD]
    rcases Nat.lt_or_ge j I.length with h | h
    · rw [List.getElem?_append_left h]
    · rw [List.getElem?_append_right h, List.getElem?_eq_none h]
      rw [List.getElem?_replicate]
      split <;> rfl
theorem comI_len (I : List Bool) (n : Nat) : (comI I n).length = max I.length (n + 1) := by unfold comI; simp; omega
theorem cntL_snoc (T : List Ent) (e : Ent) (k : ByteArray) : cntL (T ++ [e]) k = cntM (cntL T) e 1 k := by
  unfold cntL cntM updM
  rw [List.countP_append, List.countP_singleton]
  unfold isK
  by_cases h1 : e.sp = 1
  · rw [if_pos h1]
    by_cases h2 : k = e.nm
    · rw [if_pos h2, if_pos (by simp [h1, h2])]
      subst h2; simp
    · rw [if_neg h2, if_neg (by simp [h1]; exact fun h => h2 h.symm)]
      simp
  · rw [if_neg h1, if_neg (by simp [h1])]
    simp
theorem Inv.push (h : Inv E I m N) {n : Nat} (hn : n < N.length) (hf : freshB N I n = true) : Inv (E ++ [entN N n]) (comI I n) (cntM m (entN N n) 1) N := by
  unfold freshB at hf
  rw [decide_eq_true_eq] at hf
  have hnd : nodeOf N (n : Nat) = N.getD n n0 := if_pos ⟨by omega, by omega⟩
  rw [hnd] at hf
  obtain ⟨hk, ho⟩ := hf
  have hno : n ∉ E.map Ent.n := fun hm => ho ((h.opn n).2 hm)
  have hpos := h.pos
  refine ⟨by simp, ?_, ?_, fun e he => ?_, fun j => ?_, ?_, fun k => ?_⟩
  · rw [List.getD_eq_getElem?_getD, List.getElem?_append_left h.pos, ← List.getD_eq_getElem?_getD]; exact h.root
  · rw [List.map_append, List.nodup_append]
    refine ⟨h.nd, by simp, fun a ha b hb => ?_⟩
    simp only [List.map_cons, List.map_nil, List.mem_singleton] at hb
    subst hb
    rintro rfl
    exact hno ha
  · rcases List.mem_append.1 he with he | he
    · exact h.el e he
    · simp only [List.mem_singleton] at he
      subst he
      exact ⟨hn, rfl, hk⟩
  · rw [comI_get]
    simp only [List.map_append, List.map_cons, List.map_nil, List.mem_append, List.mem_singleton]
    split
    · rename_i hj; exact iff_of_true rfl (.inr hj)
    · rename_i hj
      rw [h.io]
      exact ⟨.inl, fun hh => hh.elim id (fun hh => absurd hh hj)⟩
  · rw [comI_len]; have := h.il; omega
  · have ht : (E ++ [entN N n]).tail = E.tail ++ [entN N n] := by
      cases E with
      | nil => simp at hpos
      | cons a r => rfl
    rw [ht, cntL_snoc]
    have hm : m = cntL E.tail := funext h.cn
    rw [hm]
theorem Inv.pop (h : Inv E I m N) (h2 : 2 ≤ E.length) : Inv E.dropLast (I.set (lastE E).n false) (cntM m (lastE E) (-1)) N ∧ (lastE E).n < I.length := by
  have hsp : E = E.dropLast ++ [lastE E] := by
    have hne : E ≠ [] := by intro he; rw [he] at h2; simp at h2
    have : lastE E = E.getLast hne := by
      unfold lastE
      rw [List.getD_eq_getElem?_getD, List.getElem?_eq_getElem (by omega), List.getLast_eq_getElem]; rfl
    rw [this, List.dropLast_concat_getLast]
  obtain ⟨T, e, hT, he⟩ : ∃ T e, T = E.dropLast ∧ e = lastE E := ⟨_, _, rfl, rfl⟩
  rw [← hT, ← he] at hsp ⊢
  have hTl : T.length = E.length - 1 := by rw [hT]; simp
  have hnd := h.nd
  rw [hsp, List.map_append, List.nodup_append] at hnd
  obtain ⟨hnd1, _, hnd3⟩ := hnd
  have hen : e.n ∉ T.map Ent.n := fun hm => hnd3 e.n hm e.n (by simp) rfl
  have hIn : I.getD e.n false = true := (h.io e.n).2 (by rw [hsp]; simp)
  have hIl : e.n < I.length := by
    rcases Nat.lt_or_ge e.n I.length with h1 | h1
    · exact h1
    · rw [List.getD_eq_getElem?_getD, List.getElem?_eq_none h1] at hIn; cases hIn
  refine ⟨⟨by omega, ?_, hnd1, fun x hx => h.el x (by rw [hsp]; simp [hx]), fun j => ?_, by rw [List.length_set]; exact h.il, fun k => ?_⟩, hIl⟩
  · have := h.root
    rw [hsp, List.getD_eq_getElem?_getD, List.getElem?_append_left (by omega), ← List.getD_eq_getElem?_getD] at this
    exact this
  · rw [getD_set _ _ _ _ _ hIl]
    split
    · rename_i hj; subst hj
      exact iff_of_false Bool.false_ne_true hen
    · rename_i hj
      rw [h.io, hsp]
      simp only [List.map_append, List.map_cons, List.map_nil, List.mem_append, List.mem_singleton]
      exact ⟨fun hh => hh.elim id (fun hh => absurd hh hj), .inl⟩
  · have ht : E.tail = T.tail ++ [e] := by
      cases hTT : T with
      | nil => rw [hTT] at hTl; simp at hTl; omega
      | cons a r => rw [hsp, hTT]; rfl
    have hc := h.cn
    have key : ∀ k, m k = cntM (cntL T.tail) e 1 k := fun k => by rw [hc, ht, cntL_snoc]
    unfold cntM updM at key ⊢
    by_cases h1 : e.sp = 1
    · rw [if_pos h1]
      simp only [if_pos h1] at key
      by_cases hk : k = e.nm
      · subst hk
        have := key e.nm
        rw [if_pos rfl] at this ⊢
        omega
      · have := key k
        rw [if_neg hk] at this ⊢
        exact this
    · rw [if_neg h1]
      simp only [if_neg h1] at key
      exact key k
end
end Go.Proofs.Yteeibieaapiomaa.D
/- SAdd -/
/- A Site: Pop; what is true of one that was made since. -/
namespace Go.Proofs.Yteeibieaapiomaa.D
open Go Go.Z Go.Proofs
set_option linter.unusedVariables false
section
variable {w w' w1 w2 : World} {s : Nat} {q : SP} {E : List Ent} {I : List Bool} {m : ByteArray → Int} {N : List ND} {f : Bool}
set_option maxRecDepth 100000 in
set_option maxHeartbeats 8000000 in
theorem sPop_calls (h : IsS w s q E I m N f) (hE0 : 0 < E.length) (hE : E.length ≤ 1000000) (hI : 2 ≤ E.length → (lastE E).n < I.length) (hm : SmallM m) :
    Calls Try.prog 15 [.pointer (some ⟨s, 0, none⟩)].toArray w fun x w' => x = .returned (.bool (decide (2 ≤ E.length))) ∧ ∃ vo, WrS w w' s q { q with vo := vo } ∧
      (if 2 ≤ E.length then IsS w' s { q with vo := vo } E.dropLast (I.set (lastE E).n false) (cntM m (lastE E) (-1)) N f else IsS w' s { q with vo := vo } E I m N f) := by
  have hb := h.blk
  obtain ⟨b, c, hv, hc⟩ := own_b h.own (by omega)
  rw [hv] at hb
  refine calls_zc (n := 27) (f := 15) (fn := Try.f15) Try.func15 rfl rfl (by simp) ?_
  by_cases h2 : 2 ≤ E.length
  rotate_left
  · rw [decide_eq_false h2]
    refine zc_seq ?_
    refine zc_region ?_
    refine zl_pureL rfl ?_
    refine zl_nil ?_
    refine zk_seq ?_
    iterate 2 (refine zc_seq ?_)
    refine zc_region ?_
    iterate 2 (refine zl_pureL rfl ?_)
    refine z_fa want_none (by decide) rfl ?_
    refine z_loadB want_none (by decide) rfl (by assumption) (by rfl) ?_
    refine z_len want_none (by decide) rfl ?_
    refine z_cmpB (r := true) want_none (by decide) rfl rfl rfl (iff_of_true rfl (by omega)) ?_
    refine zl_nil ?_
    refine zk_seq ?_
    refine zc_true rfl ?_
    refine zc_seq ?_
    refine zc_region ?_
    refine zl_pureL rfl ?_
    refine zl_nil ?_
    refine zk_seq ?_
    refine zc_ret ?_
    refine zk_ret_then ?_
    exact zk_ret1 (.inr rfl) rfl rfl ⟨rfl, q.vo, WrS.refl _ _ _, by rw [if_neg h2]; exact h⟩
  rw [decide_eq_true h2]
  refine zc_seq ?_
  refine zc_region ?_
  refine zl_pureL rfl ?_
  refine zl_nil ?_
  refine zk_seq ?_
  iterate 2 (refine zc_seq ?_)
  refine zc_region ?_
  iterate 2 (refine zl_pureL rfl ?_)
  refine z_fa want_none (by decide) rfl ?_
  refine z_loadB want_none (by decide) rfl (by assumption) (by rfl) ?_
  refine z_len want_none (by decide) rfl ?_
  refine z_cmpB (r := false) want_none (by decide) rfl rfl rfl (iff_of_false Bool.false_ne_true (by omega)) ?_
  refine zl_nil ?_
  refine zk_seq ?_
  refine zc_false rfl ?_
  refine zc_skip ?_
  refine zk_seq ?_
  refine zc_seq ?_
  refine zc_region ?_
  iterate 2 (refine zl_pureL rfl ?_)
  refine zl_call (by first | exact want_none | exact want_L rfl) rfl (by decide) rfl (sLast_calls h hE0 hE) ?_
  rintro _ w1 ⟨rfl, hC1⟩
  refine ⟨_, rfl, ?_⟩
  skip
  refine zl_call (by first | exact want_none | exact want_L rfl) rfl (by decide) rfl (sGoes_calls (h.no hC1) (lastE E) (hI h2) hm) ?_
  rintro _ w2 ⟨rfl, h2s, hW2⟩
  refine ⟨_, rfl, ?_⟩
  have hb2 := h2s.blk
  rw [hv] at hb2
  refine zl_nil ?_
  refine zk_seq ?_
  refine zc_seq ?_
  refine zc_draw [14] (fun w' => Blk w' s 72 [.pointer (some ⟨q.pd, 0, none⟩), .pointer (some ⟨q.pm, 0, none⟩), .slice (some ⟨b, 0, none⟩) E.length c, q.vi, .map (some q.r), .bool f]) (.take 0 (.take 1 (.take 2 (.take 3 (.take 4 (.take 5 (.take 6 (.take 7 (.take 8 (.take 9 (.take 10 (.take 11 (.plain 12 (.take 13 (.last 14))))))))))))))) (by rfl) (by kernel_rfl) (by kernel_rfl) (fun w3 hC3 _ => ⟨?_, ?_⟩)
  · exact hb2.no hC3
  have h3 := h2s.no hC3
  iterate 3 (refine zs_take rfl (zt_pure rfl ?_))
  refine zs_rdL rfl want_none rfl (by decide) (fun _ hS => r_fa rfl) ?_
  refine zs_rdL rfl want_none rfl (by decide) (fun _ hS => r_loadB rfl hS (by rfl)) ?_
  iterate 2 (refine zs_take rfl (zt_pure rfl ?_))
  refine zs_rdL rfl want_none rfl (by decide) (fun _ hS => r_fa rfl) ?_
  refine zs_rdL rfl want_none rfl (by decide) (fun _ hS => r_loadB rfl hS (by rfl)) ?_
  refine zs_rdL rfl want_none rfl (by decide) (fun _ hS => r_len rfl) ?_
  refine zs_rdL rfl want_none rfl (by decide) (fun _ hS => r_sub rfl rfl (by omega) (by omega)) ?_
  refine zs_rdL rfl (by first | exact want_none | exact want_L rfl) rfl (by decide) (fun _ hS => r_cutTo (k := E.length - 1) (.inr ⟨_, _, rfl⟩) rfl (optI_eq rfl (by omega)) (by omega)) ?_
  refine zs_plainL rfl rfl ?_
  refine zs_rdL rfl want_none rfl (by decide) (fun _ hS => r_fa rfl) ?_
  have hb3 := hb2.no hC3
  refine zs_storeL rfl (by first | exact want_none | exact want_L rfl) rfl rfl rfl (by assumption) (by first | exact Nat.le_refl _ | simp [Value.cells]) (by simp [Value.cells, Value.oneCell']) (fun w4 hU4 => ?_)
  refine zk_seq ?_
  refine zc_seq ?_
  refine zc_region ?_
  refine zl_pureL rfl ?_
  refine zl_nil ?_
  refine zk_seq ?_
  refine zc_ret ?_
  have hO3 := h3.own
  rw [hv] at hO3
  have hO4 : Own w3 74 3 (.slice (some ⟨b, 0, none⟩) (E.length - 1) c) E.dropLast.length (encE E.dropLast) := by
    rw [List.length_dropLast, List.dropLast_eq_take, encE_take]
    exact hO3.take _ (by omega)
  refine zk_ret1 (.inr rfl) rfl rfl ⟨rfl, .slice (some ⟨b, 0, none⟩) (E.length - 1) c, (WrS.pre hC1 hW2).trans ((WrS.of_no hC3 _ _).trans ⟨hU4.chg.mono (fun k _ hk => .inl hk), ?_⟩), by rw [if_pos h2]; exact h3.blkW hU4 hO4 h3.iso⟩
  rintro k (hk | hk | hk | hk | hk)
  · exact .inl (.inl hk)
  · exact .inl (.inr (.inl (by rw [hv]; exact hk)))
  · exact .inl (.inr (.inr (.inl hk)))
  · exact .inl (.inr (.inr (.inr (.inl hk))))
  · exact .inl (.inr (.inr (.inr (.inr hk))))
end
end Go.Proofs.Yteeibieaapiomaa.D
/- SAdd2 -/
/- A Site that was made since: Add, Type, Pop, Push. -/
namespace Go.Proofs.Yteeibieaapiomaa.D
open Go Go.Z Go.Proofs
set_option linter.unusedVariables false
structure SF (w0 w : World) (s : Nat) (q : SP) (E : List Ent) (I : List Bool) (m : ByteArray → Int) (N : List ND) (f : Bool) : Prop where
  is : IsS w s q E I m N f
  inv : Inv E I m N
  wf : WF N
  ge : ∀ k, footS s q k → w0.heap.size ≤ k
  chg : Chg w0 w No
/-- the same Doc, the same marks -/
structure SP.Eq (q q' : SP) : Prop where
  pd : q'.pd = q.pd
  pm : q'.pm = q.pm
  vm : q'.vm = q.vm
theorem SP.Eq.refl (q : SP) : SP.Eq q q := ⟨rfl, rfl, rfl⟩
theorem SP.Eq.trans {a b c : SP} (h : SP.Eq a b) (k : SP.Eq b c) : SP.Eq a c := ⟨k.1.trans h.1, k.2.trans h.2, k.3.trans h.3⟩
section
variable {w0 w w' w1 w2 : World} {s : Nat} {q q' : SP} {E E' : List Ent} {I I' : List Bool} {m m' : ByteArray → Int} {N N' : List ND} {f f' : Bool}
theorem SF.no (h : SF w0 w s q E I m N f) (hc : Chg w w' No) : SF w0 w' s q E I m N f := ⟨h.is.no hc, h.inv, h.wf, h.ge, h.chg.no hc⟩
theorem SF.wr (h : SF w0 w s q E I m N f) (hi : IsS w' s q' E' I' m' N' f') (hW : WrS w w' s q q') (hI : Inv E' I' m' N') (hf : WF N') : SF w0 w' s q' E' I' m' N' f' :=
  ⟨hi, hI, hf, fun k hk => (hW.ft k hk).elim (h.ge k) (fun h1 => Nat.le_trans h.chg.size h1), h.chg.trans hW.chg (fun i hi hk => by have := h.ge i hk; omega)⟩
theorem SF.chgW (h : SF w0 w s q E I m N f) (hW : WrS w w' s q q') : Chg w0 w' No := h.chg.trans hW.chg (fun i hi hk => by have := h.ge i hk; omega)
theorem SF.hinv (h : SF w0 w s q E I m N f) (l : List ByteArray) (hs : ¬ someM m l) : lastF E l (E.length - 1) = 0 := h.inv.lno hs _ (by have := h.inv.pos; omega)
theorem Inv.last (h : Inv E I m N) : lastE E ∈ E := by have := h.pos; exact getD_mem (by omega)
theorem Inv.lastN (h : Inv E I m N) : (lastE E).n < N.length := (h.el _ h.last).1
theorem SF.foster (h : SF w0 w s q E I m N f) (b : Bool) : Calls Try.prog 37 [.pointer (some ⟨s, 0, none⟩), .bool b].toArray w fun x w' => x = .returned (.tuple #[]) ∧ SF w0 w' s q E I m N b ∧ WrS w w' s q q :=
  (sFoster_calls h.is b).mono (fun e w' hh => ⟨hh.1, h.wr hh.2.1 hh.2.2 h.inv h.wf, hh.2.2⟩)
theorem SF.pop (h : SF w0 w s q E I m N f) (hN : N.length ≤ 900000) :
    Calls Try.prog 15 [.pointer (some ⟨s, 0, none⟩)].toArray w fun x w' => x = .returned (.bool (decide (2 ≤ E.length))) ∧ ∃ q', SP.Eq q q' ∧ WrS w w' s q q' ∧
      (if 2 ≤ E.length then SF w0 w' s q' E.dropLast (I.set (lastE E).n false) (cntM m (lastE E) (-1)) N f else SF w0 w' s q' E I m N f) := by
  have hel := h.inv.elen
  refine (sPop_calls h.is h.inv.pos (by omega) (fun h2 => (h.inv.pop h2).2) (h.inv.small hN)).mono ?_
  rintro e w' ⟨rfl, vo, hW, hI⟩
  refine ⟨rfl, { q with vo := vo }, ⟨rfl, rfl, rfl⟩, hW, ?_⟩
  by_cases h2 : 2 ≤ E.length
  · rw [if_pos h2] at hI ⊢
    exact h.wr hI hW (h.inv.pop h2).1 h.wf
  · rw [if_neg h2] at hI ⊢
    exact h.wr hI hW h.inv h.wf
theorem SF.push (h : SF w0 w s q E I m N f) (hB : BigT N) (hN : N.length ≤ 900000) (n : Nat) (hn : n < N.length) :
    Calls Try.prog 19 [.pointer (some ⟨s, 0, none⟩), .int .i64 n].toArray w fun x w' => x = .returned (.bool (freshB N I n)) ∧ ∃ q', SP.Eq q q' ∧ WrS w w' s q q' ∧
      (if freshB N I n = true then SF w0 w' s q' (E ++ [entN N n]) (comI I n) (cntM m (entN N n) 1) N f else SF w0 w' s q' E I m N f) := by
  have hel := h.inv.elen
  have hil := h.inv.il
  refine (sPush_calls h.is hB n hn (by omega) h.inv.pos (by omega) (by omega) (h.inv.small hN)).mono ?_
  rintro e w' ⟨rfl, vo, vi, hW, hI⟩
  refine ⟨rfl, { q with vo := vo, vi := vi }, ⟨rfl, rfl, rfl⟩, hW, ?_⟩
  by_cases h2 : freshB N I n = true
  · rw [if_pos h2] at hI ⊢
    exact h.wr hI hW (h.inv.push hn h2) h.wf
  · rw [if_neg h2] at hI ⊢
    exact h.wr hI hW h.inv h.wf
theorem SF.spot (h : SF w0 w s q E I m N f) (hB : BigT N) (hN : N.length ≤ 900000) (n : Int) :
    Calls Try.prog 42 [.pointer (some ⟨s, 0, none⟩), .int .i64 n].toArray w fun x w' => x = .returned (.tuple #[.int .i64 (spotN N E f n).1, .int .i64 (spotN N E f n).2]) ∧ Chg w w' No :=
  sSpot_calls h.is hB h.inv.pos (by have := h.inv.elen; omega) h.hinv n
theorem SF.has (h : SF w0 w s q E I m N f) (hN : N.length ≤ 900000) {v : Value} {l : List ByteArray} (hv : NS w v l) (hl : l.length ≤ 1000000) (sc : Int) :
    Calls Try.prog 35 [.pointer (some ⟨s, 0, none⟩), .int .i64 sc, v].toArray w fun x w' => x = .returned (.bool (hasF E sc l (E.length - 1))) ∧ Chg w w' No :=
  sHas_calls h.is hv hl h.inv.pos (by have := h.inv.elen; omega) sc (fun hs => h.inv.hno hs sc _ (by have := h.inv.pos; omega))
theorem SF.top (h : SF w0 w s q E I m N f) (hN : N.length ≤ 900000) : Calls Try.prog 21 [.pointer (some ⟨s, 0, none⟩)].toArray w fun e w' => e = .returned (.int .i64 (lastE E).n) ∧ Chg w w' No :=
  sTop_calls h.is h.inv.pos (by have := h.inv.elen; omega)
theorem SF.topZ (h : SF w0 w s q E I m N f) (hN : N.length ≤ 900000) {z : Int} (hz : z = ((lastE E).n : Nat)) : Calls Try.prog 21 [.pointer (some ⟨s, 0, none⟩)].toArray w fun e w' => e = .returned (.int .i64 z) ∧ Chg w w' No := by subst hz; exact h.top hN
theorem SF.hasZ (h : SF w0 w s q E I m N f) (hN : N.length ≤ 900000) {v : Value} {l : List ByteArray} (hv : NS w v l) (hl : l.length ≤ 1000000) (sc : Int) {z : Bool} (hz : z = hasF E sc l (E.length - 1)) :
    Calls Try.prog 35 [.pointer (some ⟨s, 0, none⟩), .int .i64 sc, v].toArray w fun x w' => x = .returned (.bool z) ∧ Chg w w' No := by subst hz; exact h.has hN hv hl sc
theorem SF.spotZ (h : SF w0 w s q E I m N f) (hB : BigT N) (hN : N.length ≤ 900000) (n : Int) {z : Int × Int} (hz : z = spotN N E f n) :
    Calls Try.prog 42 [.pointer (some ⟨s, 0, none⟩), .int .i64 n].toArray w fun x w' => x = .returned (.tuple #[.int .i64 z.1, .int .i64 z.2]) ∧ Chg w w' No := by subst hz; exact h.spot hB hN n
theorem SF.popZ (h : SF w0 w s q E I m N f) (hN : N.length ≤ 900000) {z : Bool} (hz : z = decide (2 ≤ E.length)) :
    Calls Try.prog 15 [.pointer (some ⟨s, 0, none⟩)].toArray w fun x w' => x = .returned (.bool z) ∧ ∃ q', SP.Eq q q' ∧ WrS w w' s q q' ∧
      (if 2 ≤ E.length then SF w0 w' s q' E.dropLast (I.set (lastE E).n false) (cntM m (lastE E) (-1)) N f else SF w0 w' s q' E I m N f) := by subst hz; exact h.pop hN
theorem IsS.no_attr {l : List At} {va : Value} (ha : AttrS w va l) (hW : WrD w w' q.pd q.vl q.Q q'.vl q'.Q) : AttrS w' va l := ha.wr hW
theorem BigT.snoc (hB : BigT N) {x : ND} (h1 : x.text.length ≤ 1000000000) (h2 : x.attrs.length ≤ 100000) : BigT (N ++ [x]) := fun i => by
  rw [getD_add]
  split
  · exact ⟨h1, h2⟩
  · exact hB i
theorem BigT.lay (hB : BigT N) (n up a : Nat) : BigT (layN N n up a) := by
  have key : ∀ (M : List ND) (i : Nat) (x : ND), BigT M → (x.text.length ≤ 1000000000 ∧ x.attrs.length ≤ 100000) → BigT (M.set i x) := fun M i x hM hx j => by
    rcases Nat.lt_or_ge i M.length with hi | hi
    · rw [getD_set _ _ _ _ _ hi]
      split
      · exact hx
      · exact hM j
    · rw [List.set_eq_of_length_le hi]; exact hM j
  unfold layN
  exact key _ _ _ (key _ _ _ hB (hB up)) (hB n)
theorem PutR.big {n up ahead : Int} {p : Bool} (h : PutR N n up ahead p N') (hB : BigT N) : BigT N' := by
  by_cases ho : PutOk N n up ahead
  · rw [(h.1 ho).2]; exact hB.lay _ _ _
  · rw [(h.2 ho).2]; exact hB
set_option maxHeartbeats 8000000 in
theorem SF.add (h : SF w0 w s q E I m N f) (hB : BigT N) (hN : N.length < 100000) (sp : Int) (nm : ByteArray) {va : Value} {l : List At} (ha : AttrS w va l) (hal : l.length ≤ 100000) :
    Calls Try.prog 23 [.pointer (some ⟨s, 0, none⟩), .int .i64 sp, .string nm, va].toArray w fun x w' => x = .returned (.int .i64 N.length) ∧ ∃ q' I' m' N' p, SP.Eq q q' ∧ WrS w w' s q q' ∧
      PutR (N ++ [⟨1, sp, nm, l, [], -1, []⟩]) N.length (spotN N E f (lastE E).n).1 (spotN N E f (lastE E).n).2 p N' ∧ BigT N' ∧ N'.length = N.length + 1 ∧ SF w0 w' s q' (E ++ [⟨N.length, sp, nm⟩]) I' m' N' f := by
  have hb := h.is.blk
  obtain ⟨A0, c0, rfl, _⟩ := ha.form
  refine calls_zc (n := 39) (f := 23) (fn := Try.f23) Try.func23 rfl rfl (by simp) ?_
  refine zc_seq ?_
  refine zc_region ?_
  refine zl_pureL rfl ?_
  refine zl_nil ?_
  refine zk_seq ?_
  refine zc_seq ?_
  refine zc_region ?_
  iterate 2 (refine zl_pureL rfl ?_)
  refine zl_call (by first | exact want_none | exact want_L rfl) rfl (by decide) rfl (h.top (by omega)) ?_
  rintro _ w1 ⟨rfl, hC1⟩
  refine ⟨_, rfl, ?_⟩
  skip
  refine zl_call (by first | exact want_none | exact want_L rfl) rfl (by decide) rfl ((h.no hC1).spot hB (by omega) _) ?_
  rintro _ w2 ⟨rfl, hC2⟩
  refine ⟨_, rfl, ?_⟩
  have hC02 := hC1.no hC2
  have h2 := h.no hC02
  have hb2 := hb.no hC02
  iterate 5 (refine zl_pureL rfl ?_)
  refine zl_nil ?_
  refine zk_seq ?_
  refine zc_seq ?_
  refine zc_region ?_
  iterate 2 (refine zl_pureL rfl ?_)
  refine z_fa want_none (by decide) rfl ?_
  refine z_loadB want_none (by decide) rfl (by assumption) (by rfl) ?_
  iterate 3 (refine zl_pureL rfl ?_)
  refine zl_call (by first | exact want_none | exact want_L rfl) rfl (by decide) rfl (elem'_calls h2.is.doc (by omega) sp nm (ha.no hC02) hal) ?_
  rintro _ w3 ⟨rfl, vl3, Q3, hD3, hW3⟩
  refine ⟨_, rfl, ?_⟩
  have hwf3 : WF (N ++ [⟨1, sp, nm, l, [], -1, []⟩]) := h.wf.add rfl rfl
  have hK3 : sameK N (N ++ [⟨1, sp, nm, l, [], -1, []⟩]) := sameK.snoc _ _
  have h3 := h2.wr (h2.is.docW hD3 hW3) (WrS.doc hW3) (h2.inv.nodes hK3) hwf3
  have hb3 := h3.is.blk
  dsimp only at hb3
  refine zl_pureL rfl ?_
  refine zl_nil ?_
  refine zk_seq ?_
  refine zc_seq ?_
  refine zc_region ?_
  iterate 2 (refine zl_pureL rfl ?_)
  refine z_fa want_none (by decide) rfl ?_
  refine z_loadB want_none (by decide) rfl (by assumption) (by rfl) ?_
  iterate 3 (refine zl_pureL rfl ?_)
  refine zl_call (by first | exact want_none | exact want_L rfl) rfl (by decide) rfl (put_calls h3.is.doc h3.wf (by simp; omega) _ _ _) ?_
  rintro _ w4 ⟨p, Q4, N4, rfl, hD4, hW4, hR4⟩
  refine ⟨_, rfl, ?_⟩
  have hwf4 := (hR4.wf h3.wf).1
  have hlen4 : N4.length = N.length + 1 := by rw [(hR4.wf h3.wf).2]; simp
  have hK4 := hR4.sameK h3.wf
  have h4 := h3.wr (h3.is.docW hD4 hW4) (WrS.doc hW4) (h3.inv.nodes hK4) hwf4
  have hB4 : BigT N4 := hR4.big (hB.snoc (Nat.zero_le _) hal)
  have hent : entN N4 N.length = ⟨N.length, sp, nm⟩ := by
    obtain ⟨_, k2, k3⟩ := hK4.2 N.length (by simp)
    unfold entN
    rw [k2, k3, getD_add, if_pos rfl]
  have hfr : freshB N4 I (N.length : Nat) = true := by
    unfold freshB
    obtain ⟨k1, _, _⟩ := hK4.2 N.length (by simp)
    have hnd : nodeOf N4 (N.length : Nat) = N4.getD N.length n0 := if_pos ⟨by omega, by omega⟩
    rw [decide_eq_true_eq, hnd]
    refine ⟨by rw [k1, getD_add, if_pos rfl], fun ho => ?_⟩
    have := h.inv.il
    have := ho.2.1
    omega
  refine zl_nil ?_
  refine zk_seq ?_
  refine zc_seq ?_
  refine zc_region ?_
  iterate 2 (refine zl_pureL rfl ?_)
  refine zl_call (by first | exact want_none | exact want_L rfl) rfl (by decide) rfl (h4.push hB4 (by omega) N.length (by omega)) ?_
  rintro _ w5 ⟨rfl, q5, hq5, hW5, h5⟩
  refine ⟨_, rfl, ?_⟩
  rw [if_pos hfr, hent] at h5
  refine zl_nil ?_
  refine zk_seq ?_
  refine zc_seq ?_
  refine zc_region ?_
  iterate 2 (refine zl_pureL rfl ?_)
  refine zl_nil ?_
  refine zk_seq ?_
  refine zc_ret ?_
  exact zk_ret1 (.inr rfl) rfl rfl ⟨rfl, q5, _, _, N4, p, ⟨hq5.1, hq5.2, hq5.3⟩, (((WrS.of_no hC02 _ _).trans (WrS.doc hW3)).trans (WrS.doc hW4)).trans hW5, hR4, hB4, hlen4, h5⟩
set_option maxHeartbeats 8000000 in
theorem SF.type (h : SF w0 w s q E I m N f) (hB : BigT N) (hN : N.length ≤ 100000) (t : List UInt8) (ht : t.length ≤ 100000) :
    Calls Try.prog 38 [.pointer (some ⟨s, 0, none⟩), .string (bs t)].toArray w fun x w' => x = .returned (.tuple #[]) ∧ ∃ q' N' p, SP.Eq q q' ∧ WrS w w' s q q' ∧
      WriteR N t (spotN N E f (lastE E).n).1 (spotN N E f (lastE E).n).2 p N' ∧ SF w0 w' s q' E I m N' f := by
  have hb := h.is.blk
  refine calls_zc (n := 21) (f := 38) (fn := Try.f38) Try.func38 rfl rfl (by simp) ?_
  refine zc_seq ?_
  refine zc_region ?_
  iterate 2 (refine zl_pureL rfl ?_)
  refine zl_call (by first | exact want_none | exact want_L rfl) rfl (by decide) rfl (h.top (by omega)) ?_
  rintro _ w1 ⟨rfl, hC1⟩
  refine ⟨_, rfl, ?_⟩
  skip
  refine zl_call (by first | exact want_none | exact want_L rfl) rfl (by decide) rfl ((h.no hC1).spot hB (by omega) _) ?_
  rintro _ w2 ⟨rfl, hC2⟩
  refine ⟨_, rfl, ?_⟩
  have hC02 := hC1.no hC2
  have h2 := h.no hC02
  have hb2 := hb.no hC02
  iterate 5 (refine zl_pureL rfl ?_)
  refine zl_nil ?_
  refine zk_seq ?_
  refine zc_region ?_
  iterate 2 (refine zl_pureL rfl ?_)
  refine z_fa want_none (by decide) rfl ?_
  refine z_loadB want_none (by decide) rfl (by assumption) (by rfl) ?_
  iterate 3 (refine zl_pureL rfl ?_)
  refine zl_call (by first | exact want_none | exact want_L rfl) rfl (by decide) rfl (write_calls h2.is.doc h.wf hN t ht hB.text _ _) ?_
  rintro _ w3 ⟨p, vl3, Q3, N3, rfl, hD3, hW3, hR3⟩
  refine ⟨_, rfl, ?_⟩
  have h3 := h2.wr (h2.is.docW hD3 hW3) (WrS.doc hW3) (h2.inv.nodes hR3.sameK) (hR3.wf h.wf).1
  refine zl_nil ?_
  exact zk_ret0 (.inl rfl) rfl ⟨rfl, { q with vl := vl3, Q := Q3 }, N3, p, ⟨rfl, rfl, rfl⟩, (WrS.of_no hC02 _ _).trans (WrS.doc hW3), hR3, h3⟩
end
end Go.Proofs.Yteeibieaapiomaa.D
/- SNew -/
/- A Site: New. -/
namespace Go.Proofs.Yteeibieaapiomaa.D
open Go Go.Z Go.Proofs
set_option linter.unusedVariables false
theorem mNew_calls {w : World} : Calls Try.prog 44 [].toArray w fun x w' => ∃ b, x = .returned (.pointer (some ⟨b, 0, none⟩)) ∧ New w w' b 91 [.slice none 0 0] := by
  refine calls_zc (n := 3) (f := 44) (fn := Try.f44) Try.func44 rfl rfl (by simp) ?_
  refine zc_seq ?_
  refine zc_region ?_
  refine zl_pureL rfl ?_
  refine zl_nil ?_
  refine zk_seq ?_
  refine zc_seq ?_
  refine zc_region ?_
  refine z_buildE #[.slice none 0 0] (by first | exact want_none | exact want_L rfl) (by decide) rfl (by kernel_rfl) ?_
  refine z_box (by first | exact want_none | exact want_L rfl) (by decide) rfl (fun w1 b1 hN1 => ?_)
  refine zl_pureL rfl ?_
  refine zl_nil ?_
  refine zk_seq ?_
  refine zc_ret ?_
  exact zk_ret1 (.inr rfl) rfl rfl ⟨b1, rfl, hN1⟩
theorem Inv.new : Inv [en0] [true] (fun _ => 0) rootN :=
  ⟨by decide, rfl, by decide, fun e he => by simp only [List.mem_singleton] at he; subst he; exact ⟨by decide, rfl, rfl⟩, fun n => by
    cases n with
    | zero => exact ⟨fun _ => by decide, fun _ => rfl⟩
    | succ n => simp [en0], by decide, fun k => rfl⟩
set_option maxRecDepth 100000 in
set_option maxHeartbeats 8000000 in
theorem sNew_calls {w0 w : World} (hc : Chg w0 w No) : Calls Try.prog 9 [].toArray w fun x w' => ∃ s q, x = .returned (.pointer (some ⟨s, 0, none⟩)) ∧ SF w0 w' s q [en0] [true] (fun _ => 0) rootN false ∧ q.vm = .slice none 0 0 ∧ w0.heap.size ≤ q.pm := by
  refine calls_zc (n := 27) (f := 9) (fn := Try.f9) Try.func9 rfl rfl (by simp) ?_
  refine zc_seq ?_
  refine zc_region ?_
  refine zl_pureL rfl ?_
  refine zl_nil ?_
  refine zk_seq ?_
  refine zc_seq ?_
  refine zc_region ?_
  refine zl_call (by first | exact want_none | exact want_L rfl) rfl (by decide) rfl new_calls ?_
  rintro _ w1 ⟨pd, vl, Q, rfl, hD1, hC1, hge1⟩
  refine ⟨_, rfl, ?_⟩
  skip
  refine zl_call (by first | exact want_none | exact want_L rfl) rfl (by decide) rfl mNew_calls ?_
  rintro _ w2 ⟨pm, rfl, hN2⟩
  refine ⟨_, rfl, ?_⟩
  skip
  refine z_makeMap (by first | exact want_none | exact want_L rfl) (by decide) (fun w3 r hM3 hC3 hr3 _ => ?_)
  skip
  refine z_buildE #[.pointer (some ⟨pd, 0, none⟩), .pointer (some ⟨pm, 0, none⟩), .slice none 0 0, .slice none 0 0, .map (some r), .bool false] (by first | exact want_none | exact want_L rfl) (by decide) rfl (by kernel_rfl) ?_
  refine z_box (by first | exact want_none | exact want_L rfl) (by decide) rfl (fun w4 s hN4 => ?_)
  have hC4 : Chg w w4 No := ((hC1.no hN2.chg).no hC3).no hN4.chg
  have hs1 := hc.size
  have hs2 := hC1.size
  have hs3 := hN2.chg.size
  have hs4 := hC3.size
  have hpm := hN2.at_
  have hsb := hN4.at_
  have h4 : IsS w4 s ⟨pd, pm, vl, Q, .slice none 0 0, .slice none 0 0, .slice none 0 0, r⟩ [] [] (fun _ => 0) rootN false :=
    ⟨hN4.blk, ((hD1.no hN2.chg).no hC3).no hN4.chg, ((hN2.blk).no hC3).no hN4.chg, Own.nil, Own.nil, hM3.no hN4.chg⟩
  have hge4 : ∀ k, footS s ⟨pd, pm, vl, Q, .slice none 0 0, .slice none 0 0, .slice none 0 0, r⟩ k → w0.heap.size ≤ k := by
    rintro k (hk | hk | hk | hk | hk)
    · omega
    · cases hk
    · cases hk
    · simp only at hk; omega
    · exact Nat.le_trans hs1 (hge1 k hk)
  have hb4 := h4.blk
  dsimp only at hb4
  refine zl_pureL rfl ?_
  refine zl_nil ?_
  refine zk_seq ?_
  refine zc_seq ?_
  refine zc_region ?_
  iterate 3 (refine zl_pureL rfl ?_)
  refine z_fa want_none (by decide) rfl ?_
  refine z_loadB want_none (by decide) rfl (by assumption) (by rfl) ?_
  refine z_buildE #[.int .i64 0, .int .i64 1, .string ⟨#[]⟩] (by first | exact want_none | exact want_L rfl) (by decide) rfl (by kernel_rfl) ?_
  refine z_bs1 (by first | exact want_none | exact want_L rfl) (by decide) rfl (by rfl) (by rfl) (by decide) (by decide) (fun w5 b5 hN5 => ?_)
  have h5 := h4.no hN5.chg
  have hr5 : RdS w5 74 3 (.slice (some ⟨b5, 0, none⟩) 1 1) 1 (encE [en0]) := RdS.new hN5 rfl (encE_one _)
  refine z_appendO (by rfl) (by decide) (by first | exact want_none | exact want_L rfl) (by decide) rfl rfl h5.own hr5 (by decide) (by decide) (fun v6 w6 hO6 hX6 hr6 => ?_)
  obtain ⟨A6, c6, hv6, _⟩ := hO6.rd.form
  subst hv6
  have hb6 := (hb4.no hN5.chg).typ hX6 (fun k hk => h5.own.blk hk) (by decide)
  refine zl_pureL rfl ?_
  refine z_fa want_none (by decide) rfl ?_
  refine z_store (by first | exact want_none | exact want_L rfl) rfl rfl rfl (by assumption) (by first | exact Nat.le_refl _ | simp [Value.cells]) (by simp [Value.cells, Value.oneCell']) (fun w7 hU7 => ?_)
  obtain ⟨h7, hW7⟩ := h5.growO (E' := [en0]) hX6 hO6 hr6 hU7
  have hb7 := h7.blk
  dsimp only at hb7
  refine zl_nil ?_
  refine zk_seq ?_
  refine zc_seq ?_
  refine zc_region ?_
  iterate 3 (refine zl_pureL rfl ?_)
  refine z_fa want_none (by decide) rfl ?_
  refine z_loadB want_none (by decide) rfl (by assumption) (by rfl) ?_
  refine z_bs1 (by first | exact want_none | exact want_L rfl) (by decide) rfl (by rfl) (by rfl) (by decide) (by decide) (fun w8 b8 hN8 => ?_)
  have h8 := h7.no hN8.chg
  have hr8 : RdS w8 4 1 (.slice (some ⟨b8, 0, none⟩) 1 1) 1 (boolC [true]) := RdS.new hN8 rfl (by simp [boolC, Value.oneCell'])
  refine z_appendO (by rfl) (by decide) (by first | exact want_none | exact want_L rfl) (by decide) rfl rfl h8.iso hr8 (by decide) (by decide) (fun v9 w9 hO9 hX9 hr9 => ?_)
  obtain ⟨A9, c9, hv9, _⟩ := hO9.rd.form
  subst hv9
  have hb9 := (hb7.no hN8.chg).typ hX9 (fun k hk => h8.iso.blk hk) (by decide)
  refine zl_pureL rfl ?_
  refine z_fa want_none (by decide) rfl ?_
  refine z_store (by first | exact want_none | exact want_L rfl) rfl rfl rfl (by assumption) (by first | exact Nat.le_refl _ | simp [Value.cells]) (by simp [Value.cells, Value.oneCell']) (fun w10 hU10 => ?_)
  obtain ⟨h10, hW10⟩ := h8.growI (I' := [true]) hX9 hO9 hr9 hU10
  have hW : WrS w4 w10 s _ _ := ((WrS.of_no hN5.chg _ _).trans hW7).trans ((WrS.of_no hN8.chg _ _).trans hW10)
  refine zl_nil ?_
  refine zk_seq ?_
  refine zc_seq ?_
  refine zc_region ?_
  iterate 2 (refine zl_pureL rfl ?_)
  refine zl_nil ?_
  refine zk_seq ?_
  refine zc_ret ?_
  refine zk_ret1 (.inr rfl) rfl rfl ⟨s, _, rfl, ⟨h10, Inv.new, rootN_WF, fun k hk => ?_, ?_⟩, rfl, ?_⟩
  · rcases hW.ft k hk with h1 | h1
    · exact hge4 k h1
    · have := hC4.size; omega
  · exact (hc.no hC4).trans hW.chg (fun i hi hk => by have := hge4 i hk; omega)
  · show w0.heap.size ≤ pm
    omega
end Go.Proofs.Yteeibieaapiomaa.D
/- SLine -/
/- Elements in one another: what Add makes of a row of names. -/
namespace Go.Proofs.Yteeibieaapiomaa.D
open Go Go.Z Go.Proofs
set_option linter.unusedVariables false
def lnM (ns : List ByteArray) (j : Nat) : ByteArray := if j = 0 then ⟨#[]⟩ else ns.getD (j - 1) ⟨#[]⟩
def lnX (ns : List ByteArray) (j : Nat) : ND := ⟨1, 1, lnM ns j, [], [], (j : Int) - 1, if j < ns.length then [j + 1] else []⟩
def lnN (ns : List ByteArray) : List ND := (List.range (ns.length + 1)).map (lnX ns)
def lnE (ns : List ByteArray) : List Ent := (List.range (ns.length + 1)).map (fun j => ⟨j, 1, lnM ns j⟩)
theorem lnN_len (ns : List ByteArray) : (lnN ns).length = ns.length + 1 := by simp [lnN]
theorem lnE_len (ns : List ByteArray) : (lnE ns).length = ns.length + 1 := by simp [lnE]
theorem lnN_get (ns : List ByteArray) (i : Nat) (h : i ≤ ns.length) : (lnN ns).getD i n0 = lnX ns i := by
  unfold lnN
  rw [List.getD_eq_getElem?_getD, List.getElem?_map, List.getElem?_range (by omega)]; rfl
theorem lnE_get (ns : List ByteArray) (i : Nat) (h : i ≤ ns.length) : (lnE ns).getD i en0 = ⟨i, 1, lnM ns i⟩ := by
  unfold lnE
  rw [List.getD_eq_getElem?_getD, List.getElem?_map, List.getElem?_range (by omega)]; rfl
theorem lnM_snoc (ns : List ByteArray) (x : ByteArray) (j : Nat) (h : j ≤ ns.length) : lnM (ns ++ [x]) j = lnM ns j := by
  unfold lnM
  split
  · rfl
  · rw [List.getD_eq_getElem?_getD, List.getD_eq_getElem?_getD, List.getElem?_append_left (by omega)]
theorem lnM_last (ns : List ByteArray) (x : ByteArray) : lnM (ns ++ [x]) (ns.length + 1) = x := by
  unfold lnM
  rw [if_neg (by omega), List.getD_eq_getElem?_getD, show ns.length + 1 - 1 = ns.length by omega]
  simp
theorem lnE_snoc (ns : List ByteArray) (x : ByteArray) : lnE (ns ++ [x]) = lnE ns ++ [⟨ns.length + 1, 1, x⟩] := by
  have : (ns ++ [x]).length + 1 = ns.length + 1 + 1 := by simp
  unfold lnE
  rw [this, List.range_succ, List.map_append]
  congr 1
  · refine List.map_congr_left (fun j hj => ?_)
    rw [List.mem_range] at hj
    rw [lnM_snoc _ _ _ (by omega)]
  · simp [lnM_last]
theorem lnE_last (ns : List ByteArray) : lastE (lnE ns) = ⟨ns.length, 1, lnM ns ns.length⟩ := by
  unfold lastE
  rw [lnE_len, show ns.length + 1 - 1 = ns.length by omega, lnE_get _ _ (Nat.le_refl _)]
theorem nd_ext {N N' : List ND} (hl : N.length = N'.length) (h : ∀ i, i < N.length → N.getD i n0 = N'.getD i n0) : N = N' := by
  apply List.ext_getElem hl
  intro i h1 h2
  have := h i h1
  rw [List.getD_eq_getElem?_getD, List.getD_eq_getElem?_getD, List.getElem?_eq_getElem h1, List.getElem?_eq_getElem h2] at this
  exact this
theorem lnN_big (ns : List ByteArray) : BigT (lnN ns) := BigT.of (fun x hx => by
  obtain ⟨j, _, rfl⟩ := List.mem_map.1 hx
  exact ⟨by simp [lnX], by simp [lnX]⟩)
theorem lnN_zero : lnN [] = rootN := by rfl
theorem lnE_zero : lnE [] = [en0] := by rfl
def lnEl (x : ByteArray) : ND := ⟨1, 1, x, [], [], -1, []⟩
theorem lnN_succ (ns : List ByteArray) (x : ByteArray) : layN (lnN ns ++ [lnEl x]) (ns.length + 1) ns.length 0 = lnN (ns ++ [x]) := by
  have hcl := lnN_len ns
  have hl : (lnN ns ++ [lnEl x]).length = ns.length + 2 := by rw [List.length_append, hcl]; rfl
  have hsl : (ns ++ [x]).length = ns.length + 1 := by simp
  refine nd_ext (by rw [layN_len, hl, lnN_len, hsl]) (fun i hi => ?_)
  rw [layN_len, hl] at hi
  have gm : (lnN ns ++ [lnEl x]).getD ns.length n0 = lnX ns ns.length := by rw [getD_add, if_neg (by omega), lnN_get ns _ (Nat.le_refl _)]
  have gs : (lnN ns ++ [lnEl x]).getD (ns.length + 1) n0 = lnEl x := by rw [getD_add, if_pos hcl.symm]
  rw [layN_get (by omega) (by omega), lnN_get _ i (by omega), gm, gs]
  by_cases h1 : i = ns.length + 1
  · subst h1
    rw [if_pos rfl]
    unfold lnX lnEl
    rw [lnM_last, if_neg (by omega)]
    simp
  · rw [if_neg h1]
    by_cases h2 : i = ns.length
    · subst h2
      rw [if_pos rfl]
      unfold lnX insK
      rw [lnM_snoc _ _ _ (Nat.le_refl _)]
      simp
    · rw [if_neg h2, getD_add, if_neg (by omega), lnN_get ns i (by omega)]
      unfold lnX
      rw [if_pos (by omega), if_pos (by omega), lnM_snoc _ _ _ (by omega)]
theorem ln_put (ns : List ByteArray) (x : ByteArray) (hW : WF (lnN ns)) {p : Bool} {N' : List ND} (h : PutR (lnN ns ++ [lnEl x]) ((lnN ns).length : Nat) (ns.length : Nat) (-1) p N') : N' = lnN (ns ++ [x]) := by
  have hcl := lnN_len ns
  rw [hcl] at h
  have hl : (lnN ns ++ [lnEl x]).length = ns.length + 2 := by rw [List.length_append, hcl]; rfl
  have g1 : (lnN ns ++ [lnEl x]).getD (ns.length + 1) n0 = lnEl x := by rw [getD_add, if_pos hcl.symm]
  have g2 : (lnN ns ++ [lnEl x]).getD ns.length n0 = lnX ns ns.length := by rw [getD_add, if_neg (by omega), lnN_get ns _ (Nat.le_refl _)]
  have k2 : (lnX ns ns.length).kids = [] := by unfold lnX; simp
  have n1 : ndOf (lnN ns ++ [lnEl x]) ((ns.length + 1 : Nat) : Int) = lnEl x := by unfold ndOf; rw [Int.toNat_natCast]; exact g1
  have n2 : ndOf (lnN ns ++ [lnEl x]) (ns.length : Nat) = lnX ns ns.length := by unfold ndOf; rw [Int.toNat_natCast]; exact g2
  have hWx := hW.add (x := lnEl x) rfl rfl
  have hok : PutOk (lnN ns ++ [lnEl x]) ((ns.length + 1 : Nat) : Int) (ns.length : Nat) (-1) := by
    refine ⟨⟨by omega, by omega⟩, ⟨by omega, by omega⟩, by rw [n2]; rfl, by omega, by rw [n1]; exact (by decide : (-1 : Int) < 0), ?_, by rw [n2]; rfl⟩
    rw [Int.toNat_natCast, Int.toNat_natCast]
    intro ha
    have := Anc.fresh hWx (by omega) (by rw [g1]; rfl) ha
    omega
  rw [(h.1 hok).2, n2, k2, Int.toNat_natCast, Int.toNat_natCast]
  exact lnN_succ ns x
section
variable {w0 w w' : World} {s : Nat} {q : SP} {I : List Bool} {m : ByteArray → Int} {ns : List ByteArray}
theorem SF.addL (h : SF w0 w s q (lnE ns) I m (lnN ns) false) (hl : ns.length ≤ 1000) (x : ByteArray) {z : Int} (hz : z = ((ns.length + 1 : Nat) : Int)) :
    Calls Try.prog 23 [.pointer (some ⟨s, 0, none⟩), .int .i64 1, .string x, .slice none 0 0].toArray w fun e w' => e = .returned (.int .i64 z) ∧ ∃ q' I' m', SP.Eq q q' ∧ WrS w w' s q q' ∧ SF w0 w' s q' (lnE (ns ++ [x])) I' m' (lnN (ns ++ [x])) false := by
  subst hz
  refine (h.add (lnN_big ns) (by rw [lnN_len]; omega) 1 x (AttrS.nil _) (Nat.zero_le _)).mono ?_
  rintro e w' ⟨rfl, q', I', m', N', p, hq, hW, hR, _, _, hS⟩
  have hsp : spotN (lnN ns) (lnE ns) false (lastE (lnE ns)).n = (((ns.length : Nat) : Int), -1) := by rw [lnE_last]; exact if_neg (fun hh => absurd hh.1 Bool.false_ne_true)
  rw [hsp] at hR
  have := ln_put ns x h.wf hR
  subst this
  rw [lnN_len] at hS ⊢
  rw [lnE_snoc]
  exact ⟨rfl, q', I', m', hq, hW, hS⟩
end
theorem sNewL_calls {w0 w : World} (hc : Chg w0 w No) : Calls Try.prog 9 [].toArray w fun x w' => ∃ s q, x = .returned (.pointer (some ⟨s, 0, none⟩)) ∧ SF w0 w' s q (lnE []) [true] (fun _ => 0) (lnN []) false ∧ q.vm = .slice none 0 0 ∧ w0.heap.size ≤ q.pm := by
  rw [lnN_zero, lnE_zero]
  exact sNew_calls hc
end Go.Proofs.Yteeibieaapiomaa.D
/- SKn8 -/
/- known. -/
namespace Go.Proofs.Yteeibieaapiomaa.D
open Go Go.Z Go.Proofs
set_option linter.unusedVariables false
def sP : ByteArray := ⟨#[112]⟩
def knN : List ND := [⟨1, 1, ⟨#[]⟩, [], [], -1, [1]⟩, ⟨1, 1, sP, [], [], 0, [2]⟩, ⟨2, 0, ⟨#[]⟩, [], [120], 1, []⟩]
theorem kn_spot : spotN (lnN [sP]) (lnE [sP]) false (lastE (lnE [sP])).n = (1, -1) := by rfl
theorem kn_write {p : Bool} {N' : List ND} (h : WriteR (lnN [sP]) [120] 1 (-1) p N') : N' = knN := by
  rw [(h.1 ⟨⟨by decide, by decide⟩, by rfl, by rfl⟩).2]
  rfl
theorem kn_tree : TF knN (knN.getD 0 n0).kids (.cons (hdOf (knN.getD 1 n0)) (.cons (hdOf (knN.getD 2 n0)) .nil .nil) .nil) := .cons _ _ _ _ (.cons _ _ _ _ .nil .nil) .nil
theorem kn_big : BigT knN := BigT.of (fun x hx => by
  simp only [knN, List.mem_cons, List.not_mem_nil, or_false] at hx
  rcases hx with rfl | rfl | rfl <;> exact ⟨by decide, by decide⟩)
set_option maxRecDepth 100000 in
set_option maxHeartbeats 16000000 in
theorem known8_calls {w : World} : Calls Try.prog 8 [].toArray w fun e w' => e = .returned (.bool true) ∧ Chg w w' No := by
  refine calls_zc (n := 58) (f := 8) (fn := Try.f8) Try.func8 rfl rfl (by simp) ?_
  refine zc_seq ?_
  refine zc_region ?_
  refine zl_pureL rfl ?_
  refine zl_nil ?_
  refine zk_seq ?_
  refine zc_seq ?_
  refine zc_region ?_
  refine zl_call (by first | exact want_none | exact want_L rfl) rfl (by decide) rfl (sNewL_calls (Chg.refl w No)) ?_
  rintro _ w1 ⟨s, q, rfl, h1, _, _⟩
  refine ⟨_, rfl, ?_⟩
  refine zl_pureL rfl ?_
  refine zl_nil ?_
  refine zk_seq ?_
  iterate 2 (refine zc_seq ?_)
  refine zc_region ?_
  refine zl_pureL rfl ?_
  refine z_eqPN (by first | exact want_none | exact want_L rfl) (by decide) rfl rfl ?_
  iterate 2 (refine zl_pureL rfl ?_)
  refine zl_call (by first | exact want_none | exact want_L rfl) rfl (by decide) rfl (sDoc_calls h1.is) ?_
  rintro _ u ⟨rfl, hu⟩
  obtain rfl := hu.symm
  refine ⟨_, rfl, ?_⟩
  refine z_eqPN (by first | exact want_none | exact want_L rfl) (by decide) rfl rfl ?_
  iterate 3 (refine zl_pureL rfl ?_)
  refine zl_call (by first | exact want_none | exact want_L rfl) rfl (by decide) rfl (sMarks_calls h1.is) ?_
  rintro _ u ⟨rfl, hu⟩
  obtain rfl := hu.symm
  refine ⟨_, rfl, ?_⟩
  refine z_eqPN (by first | exact want_none | exact want_L rfl) (by decide) rfl rfl ?_
  refine zl_pureL rfl ?_
  refine zl_nil ?_
  refine zk_seq ?_
  refine zc_false rfl ?_
  refine zc_skip ?_
  refine zk_seq ?_
  refine zc_seq ?_
  refine zc_region ?_
  refine zl_pureL rfl ?_
  refine zl_call (by first | exact want_none | exact want_L rfl) rfl (by decide) rfl (h1.addL (by decide) sP (z := 1) (by rfl)) ?_
  rintro _ w2 ⟨rfl, q2, I2, m2, hq2, hW2, h2⟩
  refine ⟨_, rfl, ?_⟩
  refine zl_pureL rfl ?_
  refine zl_nil ?_
  refine zk_seq ?_
  refine zc_seq ?_
  refine zc_region ?_
  refine zl_pureL rfl ?_
  refine zl_call (by first | exact want_none | exact want_L rfl) rfl (by decide) rfl (h2.type (lnN_big _) (by decide) [120] (by decide)) ?_
  rintro _ w3 ⟨rfl, q3, N3, p3, hq3, hW3, hR3, h3⟩
  refine ⟨_, rfl, ?_⟩
  have e3 : N3 = knN := kn_write (by have := hR3; exact this)
  subst e3
  refine zl_nil ?_
  refine zk_seq ?_
  refine zc_seq ?_
  refine zc_region ?_
  refine zl_pureL rfl ?_
  refine zl_call (by first | exact want_none | exact want_L rfl) rfl (by decide) rfl (sDoc_calls h3.is) ?_
  rintro _ u ⟨rfl, hu⟩
  obtain rfl := hu.symm
  refine ⟨_, rfl, ?_⟩
  skip
  refine zl_call (by first | exact want_none | exact want_L rfl) rfl (by decide) rfl (tree_calls h3.wf (by decide) kn_big _ h3.is.doc 0 (by decide) _ kn_tree (Nat.le_refl _)) ?_
  rintro _ w4 ⟨vo, rfl, hT4, hC4⟩
  refine ⟨_, rfl, ?_⟩
  have h4 := h3.no hC4
  obtain ⟨A4, c4, hv4, _⟩ : ∃ A c, vo = .slice A 1 c ∧ 1 ≤ c := hT4.at'.form
  obtain ⟨b, o, c, x, k, r, A, K, e5, hv5, hc5, hA5, hK5⟩ := hT4.at'.at_ 0 (by decide)
  cases e5
  obtain ⟨Ak, ck, hvk, _⟩ : ∃ A c, K = .slice A 1 c ∧ 1 ≤ c := hK5.form
  subst hvk
  have hv5' : vo = .slice (some ⟨b, o, none⟩) 1 c := hv5
  clear hv5
  rw [hv4] at hv5'
  subst hv4
  cases hv5'
  refine zl_pureL rfl ?_
  refine zl_nil ?_
  refine zk_seq ?_
  refine zc_seq ?_
  refine zc_region ?_
  refine zl_pureL rfl ?_
  refine z_cmpB (r := true) want_none (by decide) rfl rfl rfl (iff_of_true rfl (by omega)) ?_
  iterate 2 (refine zl_pureL rfl ?_)
  refine zl_call (by first | exact want_none | exact want_L rfl) rfl (by decide) rfl (h4.topZ (by decide) (z := 1) (by rfl)) ?_
  rintro _ w5 ⟨rfl, hC5⟩
  refine ⟨_, rfl, ?_⟩
  have hc6 := cell_no hC5 hc5.c6
  refine z_cmpB (r := true) (want_L rfl) (by decide) rfl rfl rfl (iff_of_true rfl (by omega)) ?_
  iterate 3 (refine zl_pureL rfl ?_)
  refine z_len (want_L rfl) (by decide) rfl ?_
  refine z_cmpB (r := true) (want_L rfl) (by decide) rfl rfl rfl (iff_of_true rfl (by omega)) ?_
  iterate 3 (refine zl_pureL rfl ?_)
  refine z_ia (want_L rfl) (by decide) rfl rfl (by omega) (by omega) ?_
  refine z_fa (want_L rfl) (by decide) rfl ?_
  refine z_load1 (want_L rfl) (by decide) rfl (by assumption) ?_
  refine z_len (want_L rfl) (by decide) rfl ?_
  refine z_cmpB (r := true) (want_L rfl) (by decide) rfl rfl rfl (iff_of_true rfl (by omega)) ?_
  iterate 3 (refine zl_pureL rfl ?_)
  refine z_bs1 (by first | exact want_none | exact want_L rfl) (by decide) rfl (by rfl) (by rfl) (by decide) (by decide) (fun w6 b6 hN6 => ?_)
  have hn6 : NS w6 (.slice (some ⟨b6, 0, none⟩) 1 1) [sP] := RdS.new hN6 rfl (nmsC_one _)
  have h6 := (h4.no hC5).no hN6.chg
  skip
  refine zl_call (by first | exact want_none | exact want_L rfl) rfl (by decide) rfl (h6.hasZ (by decide) hn6 (by decide) 1 (z := true) (by rfl)) ?_
  rintro _ w7 ⟨rfl, hC7⟩
  refine ⟨_, rfl, ?_⟩
  have h7 := h6.no hC7
  iterate 3 (refine zl_pureL rfl ?_)
  refine zl_call (by first | exact want_none | exact want_L rfl) rfl (by decide) rfl (h7.popZ (by decide) (z := true) (by rfl)) ?_
  rintro _ w8 ⟨rfl, q8, hq8, hW8, h8⟩
  refine ⟨_, rfl, ?_⟩
  rw [if_pos (by decide)] at h8
  iterate 3 (refine zl_pureL rfl ?_)
  refine zl_call (by first | exact want_none | exact want_L rfl) rfl (by decide) rfl (h8.popZ (by decide) (z := false) (by rfl)) ?_
  rintro _ w9 ⟨rfl, q9, hq9, hW9, h9⟩
  refine ⟨_, rfl, ?_⟩
  rw [if_neg (by decide)] at h9
  iterate 3 (refine zl_pureL rfl ?_)
  refine zl_nil ?_
  refine zk_seq ?_
  refine zc_ret ?_
  exact zk_ret1 (.inr rfl) rfl rfl ⟨rfl, h9.chg⟩
end Go.Proofs.Yteeibieaapiomaa.D
/- SKn -/
/- SiteKnown: the walk. -/
namespace Go.Proofs.Yteeibieaapiomaa.D
open Go Go.Z Go.Proofs
set_option linter.unusedVariables false
theorem within8_calls {w : World} {a : Int} {n : Nat} (hn : 0 < n) (hn2 : n ≤ 1000000000) :
    Calls Try.prog 27 [.int .i64 a, .int .i64 n].toArray w fun e w' => e = .returned (.int .i64 (a % n)) ∧ w' = w := by
  have hm := tmod_emod a n hn
  refine calls_zc (n := 17) (f := 27) (fn := Try.f27) Try.func27 rfl rfl (by simp) ?_
  refine zc_seq ?_
  refine zc_region ?_
  refine zl_pureL rfl ?_
  refine zl_nil ?_
  refine zk_seq ?_
  iterate 2 (refine zc_seq ?_)
  refine zc_region ?_
  refine zl_pureL rfl ?_
  refine z_cmpB (r := false) want_none (by decide) rfl rfl rfl (iff_of_false Bool.false_ne_true (by omega)) ?_
  refine zl_nil ?_
  refine zk_seq ?_
  refine zc_false rfl ?_
  refine zc_skip ?_
  refine zk_seq ?_
  refine zc_seq ?_
  refine zc_region ?_
  iterate 2 (refine zl_pureL rfl ?_)
  refine z_rem (by first | exact want_none | exact want_L rfl) (by decide) rfl rfl (by omega) ?_
  refine zl_pureL rfl ?_
  refine zl_nil ?_
  refine zk_seq ?_
  iterate 2 (refine zc_seq ?_)
  refine zc_region ?_
  refine zl_pureL rfl ?_
  rcases hm with ⟨h1, h2, h3⟩ | ⟨h1, h2, h3⟩
  · refine z_cmpB (r := false) want_none (by decide) rfl rfl rfl (iff_of_false Bool.false_ne_true (by omega)) ?_
    refine zl_nil ?_
    refine zk_seq ?_
    refine zc_false rfl ?_
    refine zc_skip ?_
    refine zk_seq ?_
    refine zc_seq ?_
    refine zc_region ?_
    iterate 2 (refine zl_pureL rfl ?_)
    refine zl_nil ?_
    refine zk_seq ?_
    refine zc_ret ?_
    exact zk_ret1 (.inr rfl) rfl rfl ⟨by rw [h2], rfl⟩
  · refine z_cmpB (r := true) want_none (by decide) rfl rfl rfl (iff_of_true rfl (by omega)) ?_
    refine zl_nil ?_
    refine zk_seq ?_
    refine zc_true rfl ?_
    refine zc_region ?_
    iterate 2 (refine zl_pureL rfl ?_)
    refine z_add want_none (by decide) rfl rfl (by omega) (by omega) ?_
    refine zl_pureL rfl ?_
    refine zl_nil ?_
    refine zk_seq ?_
    refine zc_seq ?_
    refine zc_region ?_
    iterate 2 (refine zl_pureL rfl ?_)
    refine zl_nil ?_
    refine zk_seq ?_
    refine zc_ret ?_
    exact zk_ret1 (.inr rfl) rfl rfl ⟨by rw [h2], rfl⟩
def sDiv : ByteArray := ⟨#[100, 105, 118]⟩
def sBut : ByteArray := ⟨#[98, 117, 116, 116, 111, 110]⟩
def sTbl : ByteArray := ⟨#[116, 97, 98, 108, 101]⟩
def sTpl : ByteArray := ⟨#[116, 101, 109, 112, 108, 97, 116, 101]⟩
def sTr : ByteArray := ⟨#[116, 114]⟩
def sLi : ByteArray := ⟨#[108, 105]⟩
def sUl : ByteArray := ⟨#[117, 108]⟩
def kR : Nat → List ByteArray
  | 0 => [sP, sDiv]
  | 1 => [sP, sBut]
  | 2 => [sTbl, sTr]
  | 3 => [sTbl, sTpl, sTr]
  | 4 => [sTr]
  | _ => [sLi, sUl]
theorem kR_len (i : Nat) : (kR i).length ≤ 3 := by
  unfold kR
  split <;> decide
def kUp : List Nat := [2, 2, 0, 2, 0, 2]
def kUpV : List Value := [.int .i64 2, .int .i64 2, .int .i64 0, .int .i64 2, .int .i64 0, .int .i64 2]
def kAhV : List Value := [.int .i64 (-1), .int .i64 (-1), .int .i64 1, .int .i64 (-1), .int .i64 (-1), .int .i64 (-1)]
def kSp (i : Nat) : Int × Int := spotN (lnN (kR i)) (lnE (kR i)) true ((kR i).length : Nat)
theorem kUp_get : ∀ i, i < 6 → kUpV[i]? = some (.int .i64 (kSp i).1) := by
  intro i hi
  match i, hi with
  | 0, _ | 1, _ | 2, _ | 3, _ | 4, _ | 5, _ => rfl
theorem kAh_get : ∀ i, i < 6 → kAhV[i]? = some (.int .i64 (kSp i).2) := by
  intro i hi
  match i, hi with
  | 0, _ | 1, _ | 2, _ | 3, _ | 4, _ | 5, _ => rfl
def kHas (i : Nat) (sc : Int) (x : ByteArray) : Bool := hasF (lnE (kR i)) sc [x] ((lnE (kR i)).length - 1)
def kIn (i : Nat) : List Value := [.bool (kHas i 3 sP), .bool (!kHas i 3 sP), .bool (kHas i 4 sTbl), .bool (!kHas i 4 sTbl), .bool (kHas i 1 sTr), .bool (!kHas i 2 sLi)]
theorem kIn_get : ∀ i, i < 6 → (kIn i)[i]? = some (.bool true) := by
  intro i hi
  match i, hi with
  | 0, _ | 1, _ | 2, _ | 3, _ | 4, _ | 5, _ => rfl
def kV (b1 b2 b3 b4 b5 b6 : Nat) : List Value := [.slice (some ⟨b1, 0, none⟩) 2 2, .slice (some ⟨b2, 0, none⟩) 2 2, .slice (some ⟨b3, 0, none⟩) 2 2, .slice (some ⟨b4, 0, none⟩) 3 3, .slice (some ⟨b5, 0, none⟩) 1 1, .slice (some ⟨b6, 0, none⟩) 2 2]
theorem k_all {w : World} {b1 b2 b3 b4 b5 b6 : Nat} (h1 : NS w (.slice (some ⟨b1, 0, none⟩) 2 2) (kR 0)) (h2 : NS w (.slice (some ⟨b2, 0, none⟩) 2 2) (kR 1)) (h3 : NS w (.slice (some ⟨b3, 0, none⟩) 2 2) (kR 2)) (h4 : NS w (.slice (some ⟨b4, 0, none⟩) 3 3) (kR 3)) (h5 : NS w (.slice (some ⟨b5, 0, none⟩) 1 1) (kR 4)) (h6 : NS w (.slice (some ⟨b6, 0, none⟩) 2 2) (kR 5)) :
    ∀ i, i < 6 → ∃ v, (kV b1 b2 b3 b4 b5 b6)[i]? = some v ∧ NS w v (kR i) := by
  intro i hi
  match i, hi with
  | 0, _ => exact ⟨_, rfl, h1⟩
  | 1, _ => exact ⟨_, rfl, h2⟩
  | 2, _ => exact ⟨_, rfl, h3⟩
  | 3, _ => exact ⟨_, rfl, h4⟩
  | 4, _ => exact ⟨_, rfl, h5⟩
  | 5, _ => exact ⟨_, rfl, h6⟩
set_option maxRecDepth 100000 in
set_option maxHeartbeats 16000000 in
theorem SiteKnown_walk (k : Int) (w : World) : Calls Try.prog 7 #[.int .i64 k] w fun e w' => e = .returned (.bool true) ∧ RowKit.Below w.heap.size w w' := by
  show Calls Try.prog 7 [Value.int .i64 k].toArray w _
  obtain ⟨i, hi⟩ := Int.eq_ofNat_of_zero_le (Int.emod_nonneg k (show ((6 : Nat) : Int) ≠ 0 by decide))
  have hi6 : i < 6 := by have := Int.emod_lt_of_pos k (show (0 : Int) < ((6 : Nat) : Int) by decide); omega
  refine calls_zc (n := 104) (f := 7) (fn := Try.f7) Try.func7 rfl rfl (by simp) ?_
  refine zc_seq ?_
  refine zc_region ?_
  refine zl_pureL rfl ?_
  refine zl_nil ?_
  refine zk_seq ?_
  iterate 2 (refine zc_seq ?_)
  refine zc_region ?_
  refine zl_call (by first | exact want_none | exact want_L rfl) rfl (by decide) rfl known8_calls ?_
  rintro _ w1 ⟨rfl, hC1⟩
  refine ⟨_, rfl, ?_⟩
  refine zl_pureL rfl ?_
  refine zl_nil ?_
  refine zk_seq ?_
  refine zc_false rfl ?_
  refine zc_skip ?_
  refine zk_seq ?_
  refine zc_seq ?_
  refine zc_region ?_
  refine zl_call (by first | exact want_none | exact want_L rfl) rfl (by decide) rfl (sNewL_calls hC1) ?_
  rintro _ w2 ⟨s, q, rfl, h2, _, _⟩
  refine ⟨_, rfl, ?_⟩
  refine zl_pureL rfl ?_
  refine zl_nil ?_
  refine zk_seq ?_
  iterate 2 (refine zc_seq ?_)
  refine zc_region ?_
  refine zl_pureL rfl ?_
  refine z_eqPN (by first | exact want_none | exact want_L rfl) (by decide) rfl rfl ?_
  iterate 2 (refine zl_pureL rfl ?_)
  refine zl_call (by first | exact want_none | exact want_L rfl) rfl (by decide) rfl (sDoc_calls h2.is) ?_
  rintro _ u ⟨rfl, hu⟩
  obtain rfl := hu.symm
  refine ⟨_, rfl, ?_⟩
  refine z_eqPN (by first | exact want_none | exact want_L rfl) (by decide) rfl rfl ?_
  refine zl_pureL rfl ?_
  refine zl_nil ?_
  refine zk_seq ?_
  refine zc_false rfl ?_
  refine zc_skip ?_
  refine zk_seq ?_
  refine zc_seq ?_
  refine zc_region ?_
  refine z_bsE (nmsC (kR 0)) (by first | exact want_none | exact want_L rfl) (by decide) rfl (by decide) (by decide) (by kernel_rfl) (fun v1 b1 hN1 => ?_)
  refine z_bsE (nmsC (kR 1)) (by first | exact want_none | exact want_L rfl) (by decide) rfl (by decide) (by decide) (by kernel_rfl) (fun v2 b2 hN2 => ?_)
  refine z_bsE (nmsC (kR 2)) (by first | exact want_none | exact want_L rfl) (by decide) rfl (by decide) (by decide) (by kernel_rfl) (fun v3 b3 hN3 => ?_)
  refine z_bsE (nmsC (kR 3)) (by first | exact want_none | exact want_L rfl) (by decide) rfl (by decide) (by decide) (by kernel_rfl) (fun v4 b4 hN4 => ?_)
  refine z_bsE (nmsC (kR 4)) (by first | exact want_none | exact want_L rfl) (by decide) rfl (by decide) (by decide) (by kernel_rfl) (fun v5 b5 hN5 => ?_)
  refine z_bsE (nmsC (kR 5)) (by first | exact want_none | exact want_L rfl) (by decide) rfl (by decide) (by decide) (by kernel_rfl) (fun v6 b6 hN6 => ?_)
  refine z_bsE (kV b1 b2 b3 b4 b5 b6) (by first | exact want_none | exact want_L rfl) (by decide) rfl (by decide) (by decide) (by kernel_rfl) (fun w3 b7 hN7 => ?_)
  have n1 : NS v1 (.slice (some ⟨b1, 0, none⟩) 2 2) (kR 0) := RdS.new hN1 rfl (nmsC_one _)
  have n2 : NS v2 (.slice (some ⟨b2, 0, none⟩) 2 2) (kR 1) := RdS.new hN2 rfl (nmsC_one _)
  have n3 : NS v3 (.slice (some ⟨b3, 0, none⟩) 2 2) (kR 2) := RdS.new hN3 rfl (nmsC_one _)
  have n4 : NS v4 (.slice (some ⟨b4, 0, none⟩) 3 3) (kR 3) := RdS.new hN4 rfl (nmsC_one _)
  have n5 : NS v5 (.slice (some ⟨b5, 0, none⟩) 1 1) (kR 4) := RdS.new hN5 rfl (nmsC_one _)
  have n6 : NS v6 (.slice (some ⟨b6, 0, none⟩) 2 2) (kR 5) := RdS.new hN6 rfl (nmsC_one _)
  have c67 := hN7.chg
  have c57 := hN6.chg.no c67
  have c47 := hN5.chg.no c57
  have c37 := hN4.chg.no c47
  have c27 := hN3.chg.no c37
  have c17 := hN2.chg.no c27
  have h3 := h2.no (hN1.chg.no c17)
  obtain ⟨v, hv, hns⟩ := k_all (RdS.no n1 c17) (RdS.no n2 c27) (RdS.no n3 c37) (RdS.no n4 c47) (RdS.no n5 c57) (RdS.no n6 c67) i hi6
  obtain ⟨Ar, cr, rfl, _⟩ := hns.form
  have g7 : w3.cell? ⟨b7, 0 + i, none⟩ = some (.slice Ar (kR i).length cr) := by rw [Nat.zero_add]; exact (hN7.blk.cell i).trans hv
  have hkl := kR_len i
  refine zl_pureL rfl ?_
  refine zl_nil ?_
  refine zk_seq ?_
  refine zc_seq ?_
  refine zc_region ?_
  iterate 2 (refine zl_pureL rfl ?_)
  refine z_len want_none (by decide) rfl ?_
  refine zl_call (by first | exact want_none | exact want_L rfl) rfl (by decide) rfl (within8_calls (n := 6) (by decide) (by decide)) ?_
  rintro _ u ⟨rfl, hu⟩
  obtain rfl := hu.symm
  refine ⟨_, rfl, ?_⟩
  rw [hi]
  refine zl_pureL rfl ?_
  refine zl_nil ?_
  refine zk_seq ?_
  iterate 2 (refine zc_seq ?_)
  refine zc_region ?_
  refine zl_pureL rfl ?_
  refine zl_nil ?_
  refine zk_seq ?_
  refine zc_block ?_
  refine zc_loopW (ι := Nat × SP × List Bool × (ByteArray → Int)) (fun k u => [(3, .pointer (some ⟨s, 0, none⟩)), (4, .slice (some ⟨b7, 0, none⟩) 6 6), (5, .int .i64 (i : Nat)), (6, .int .i64 (k.1 : Nat))])
    (fun k u => k.1 ≤ (kR i).length ∧ SF w u s k.2.1 (lnE ((kR i).take k.1)) k.2.2.1 k.2.2.2 (lnN ((kR i).take k.1)) false ∧ WrS w3 u s q k.2.1) (fun k u => (kR i).length - k.1) (0, q, _, _)
    ⟨Nat.zero_le _, h3, WrS.refl _ _ _⟩ ?_ ?_
  · exact ⟨rfl, rfl, rfl, rfl, trivial⟩
  rintro ⟨j, qj, Ij, mj⟩ u ⟨hj, hS, hW⟩
  dsimp only at hj hS hW ⊢
  have hb7 : Blk u b7 58 (kV b1 b2 b3 b4 b5 b6) := hN7.blk.chg hW.chg (h3.is.noT hN7.blk (by decide) (by decide) (by decide) (by decide) (by decide) (by decide) (by decide) (by decide))
  have hnu : NS u (.slice Ar (kR i).length cr) (kR i) := RdS.chg hns hW.chg (fun b cells hb => h3.is.noT hb (by decide) (by decide) (by decide) (by decide) (by decide) (by decide) (by decide) (by decide))
  have gu : u.cell? ⟨b7, 0 + i, none⟩ = some (.slice Ar (kR i).length cr) := by rw [Nat.zero_add]; exact (hb7.cell i).trans hv
  obtain ⟨n, hn⟩ : ∃ n, n = (kR i).length := ⟨_, rfl⟩
  rw [← hn] at hj hkl gu hnu
  iterate 2 (refine zc_seq ?_)
  refine zc_region ?_
  iterate 3 (refine zl_pureL rfl ?_)
  refine z_ia want_none (by decide) rfl rfl (by omega) (by omega) ?_
  refine z_load1 (by first | exact want_none | exact want_L rfl) (by decide) rfl (cell_at gu (by omega)) ?_
  by_cases hlt : j < n
  · obtain ⟨bn, on, cn, hvn, _, hcn⟩ := RdS.some hnu (by omega)
    rw [← hn] at hvn
    cases hvn
    have gx : u.cell? ⟨bn, on + j, none⟩ = some (.string ((kR i).getD j ⟨#[]⟩)) := by
      exact hcn j _ (nmsC_get (kR i) j (by omega))
    refine z_len want_none (by decide) rfl ?_
    refine z_cmpB (r := true) want_none (by decide) rfl rfl rfl (iff_of_true rfl (by omega)) ?_
    refine zl_nil ?_
    refine zk_seq ?_
    refine zc_true rfl ?_
    refine zc_skip ?_
    refine zk_seq ?_
    refine zc_seq ?_
    refine zc_block ?_
    refine zc_region ?_
    iterate 3 (refine zl_pureL rfl ?_)
    refine z_ia want_none (by decide) rfl rfl (by omega) (by omega) ?_
    refine z_load1 (by first | exact want_none | exact want_L rfl) (by decide) rfl (cell_at gu (by omega)) ?_
    refine zl_pureL rfl ?_
    refine z_ia want_none (by decide) rfl rfl (by omega) (by omega) ?_
    refine z_load1 (by first | exact want_none | exact want_L rfl) (by decide) rfl (cell_at gx (by omega)) ?_
    skip
    refine zl_call (by first | exact want_none | exact want_L rfl) rfl (by decide) rfl (hS.addL (by rw [List.length_take]; omega) ((kR i).getD j ⟨#[]⟩) rfl) ?_
    rintro _ u2 ⟨rfl, q2, I2, m2, hq2, hW2, hS2⟩
    refine ⟨_, rfl, ?_⟩
    have et : (kR i).take j ++ [(kR i).getD j ⟨#[]⟩] = (kR i).take (j + 1) := by
      rw [List.take_add_one, List.getD_eq_getElem?_getD, List.getElem?_eq_getElem (by omega)]; rfl
    rw [et] at hS2
    refine zl_nil ?_
    refine zk_norm_block ?_
    refine zk_seq ?_
    refine zc_region ?_
    refine zl_pureL rfl ?_
    refine z_add want_none (by decide) rfl rfl (by omega) (by omega) ?_
    refine zl_pureL rfl ?_
    refine zl_nil ?_
    refine zk_loopW (j + 1, q2, I2, m2) ⟨by dsimp only; omega, hS2, hW.trans hW2⟩ (by dsimp only; omega) ⟨rfl, rfl, rfl, rfl, trivial⟩
  · have et : (kR i).take j = kR i := List.take_of_length_le (by omega)
    rw [et] at hS
    have hNl : (lnN (kR i)).length ≤ 900000 := by rw [lnN_len]; omega
    refine z_len want_none (by decide) rfl ?_
    refine z_cmpB (r := false) want_none (by decide) rfl rfl rfl (iff_of_false Bool.false_ne_true (by omega)) ?_
    refine zl_nil ?_
    refine zk_seq ?_
    refine zc_false rfl ?_
    refine zc_exit ?_
    iterate 2 (refine zk_exit_then ?_)
    refine zk_exit_block ?_
    refine zk_seq ?_
    refine zc_seq ?_
    refine zc_region ?_
    refine zl_pureL rfl ?_
    refine zl_call (by first | exact want_none | exact want_L rfl) rfl (by decide) rfl (hS.foster true) ?_
    rintro _ u1 ⟨rfl, hS1, _⟩
    refine ⟨_, rfl, ?_⟩
    refine zl_nil ?_
    refine zk_seq ?_
    refine zc_seq ?_
    refine zc_region ?_
    iterate 2 (refine zl_pureL rfl ?_)
    refine zl_call (by first | exact want_none | exact want_L rfl) rfl (by decide) rfl (hS1.topZ hNl (z := ((kR i).length : Nat)) (by rw [lnE_last])) ?_
    rintro _ u2 ⟨rfl, hC2⟩
    refine ⟨_, rfl, ?_⟩
    have hS2 := hS1.no hC2
    skip
    refine zl_call (by first | exact want_none | exact want_L rfl) rfl (by decide) rfl (hS2.spotZ (lnN_big _) hNl _ (z := kSp i) rfl) ?_
    rintro _ u3 ⟨rfl, hC3⟩
    refine ⟨_, rfl, ?_⟩
    have hS3 := hS2.no hC3
    iterate 5 (refine zl_pureL rfl ?_)
    refine zl_nil ?_
    refine zk_seq ?_
    refine zc_seq ?_
    refine zc_region ?_
    refine z_bsE kUpV (by first | exact want_none | exact want_L rfl) (by decide) rfl (by decide) (by decide) (by kernel_rfl) (fun u4 b8 hM4 => ?_)
    refine z_bsE kAhV (by first | exact want_none | exact want_L rfl) (by decide) rfl (by decide) (by decide) (by kernel_rfl) (fun u5 b9 hM5 => ?_)
    have hS5 := (hS3.no hM4.chg).no hM5.chg
    have hb8 := hM4.blk.no hM5.chg
    have hb9 := hM5.blk
    iterate 2 (refine zl_pureL rfl ?_)
    refine zl_nil ?_
    refine zk_seq ?_
    refine zc_seq ?_
    refine zc_region ?_
    refine zl_pureL rfl ?_
    refine z_bs1 (by first | exact want_none | exact want_L rfl) (by decide) rfl (by rfl) (by rfl) (by decide) (by decide) (fun x10 c10 hX10 => ?_)
    have hn10 : NS x10 (.slice (some ⟨c10, 0, none⟩) 1 1) [sP] := RdS.new hX10 rfl (nmsC_one _)
    skip
    refine zl_call (by first | exact want_none | exact want_L rfl) rfl (by decide) rfl ((hS5.no hX10.chg).hasZ hNl hn10 (by simp) 3 (z := kHas i 3 sP) rfl) ?_
    rintro _ y10 ⟨rfl, hY10⟩
    refine ⟨_, rfl, ?_⟩
    have hS10 := (hS5.no hX10.chg).no hY10
    have hb8 := (hb8.no hX10.chg).no hY10
    have hb9 := (hb9.no hX10.chg).no hY10
    refine zl_pureL rfl ?_
    refine z_bs1 (by first | exact want_none | exact want_L rfl) (by decide) rfl (by rfl) (by rfl) (by decide) (by decide) (fun x11 c11 hX11 => ?_)
    have hn11 : NS x11 (.slice (some ⟨c11, 0, none⟩) 1 1) [sP] := RdS.new hX11 rfl (nmsC_one _)
    skip
    refine zl_call (by first | exact want_none | exact want_L rfl) rfl (by decide) rfl ((hS10.no hX11.chg).hasZ hNl hn11 (by simp) 3 (z := kHas i 3 sP) rfl) ?_
    rintro _ y11 ⟨rfl, hY11⟩
    refine ⟨_, rfl, ?_⟩
    have hS11 := (hS10.no hX11.chg).no hY11
    have hb8 := (hb8.no hX11.chg).no hY11
    have hb9 := (hb9.no hX11.chg).no hY11
    refine z_not (by first | exact want_none | exact want_L rfl) (by decide) rfl ?_
    refine zl_pureL rfl ?_
    refine z_bs1 (by first | exact want_none | exact want_L rfl) (by decide) rfl (by rfl) (by rfl) (by decide) (by decide) (fun x12 c12 hX12 => ?_)
    have hn12 : NS x12 (.slice (some ⟨c12, 0, none⟩) 1 1) [sTbl] := RdS.new hX12 rfl (nmsC_one _)
    skip
    refine zl_call (by first | exact want_none | exact want_L rfl) rfl (by decide) rfl ((hS11.no hX12.chg).hasZ hNl hn12 (by simp) 4 (z := kHas i 4 sTbl) rfl) ?_
    rintro _ y12 ⟨rfl, hY12⟩
    refine ⟨_, rfl, ?_⟩
    have hS12 := (hS11.no hX12.chg).no hY12
    have hb8 := (hb8.no hX12.chg).no hY12
    have hb9 := (hb9.no hX12.chg).no hY12
    refine zl_pureL rfl ?_
    refine z_bs1 (by first | exact want_none | exact want_L rfl) (by decide) rfl (by rfl) (by rfl) (by decide) (by decide) (fun x13 c13 hX13 => ?_)
    have hn13 : NS x13 (.slice (some ⟨c13, 0, none⟩) 1 1) [sTbl] := RdS.new hX13 rfl (nmsC_one _)
    skip
    refine zl_call (by first | exact want_none | exact want_L rfl) rfl (by decide) rfl ((hS12.no hX13.chg).hasZ hNl hn13 (by simp) 4 (z := kHas i 4 sTbl) rfl) ?_
    rintro _ y13 ⟨rfl, hY13⟩
    refine ⟨_, rfl, ?_⟩
    have hS13 := (hS12.no hX13.chg).no hY13
    have hb8 := (hb8.no hX13.chg).no hY13
    have hb9 := (hb9.no hX13.chg).no hY13
    refine z_not (by first | exact want_none | exact want_L rfl) (by decide) rfl ?_
    refine zl_pureL rfl ?_
    refine z_bs1 (by first | exact want_none | exact want_L rfl) (by decide) rfl (by rfl) (by rfl) (by decide) (by decide) (fun x14 c14 hX14 => ?_)
    have hn14 : NS x14 (.slice (some ⟨c14, 0, none⟩) 1 1) [sTr] := RdS.new hX14 rfl (nmsC_one _)
    skip
    refine zl_call (by first | exact want_none | exact want_L rfl) rfl (by decide) rfl ((hS13.no hX14.chg).hasZ hNl hn14 (by simp) 1 (z := kHas i 1 sTr) rfl) ?_
    rintro _ y14 ⟨rfl, hY14⟩
    refine ⟨_, rfl, ?_⟩
    have hS14 := (hS13.no hX14.chg).no hY14
    have hb8 := (hb8.no hX14.chg).no hY14
    have hb9 := (hb9.no hX14.chg).no hY14
    refine zl_pureL rfl ?_
    refine z_bs1 (by first | exact want_none | exact want_L rfl) (by decide) rfl (by rfl) (by rfl) (by decide) (by decide) (fun x15 c15 hX15 => ?_)
    have hn15 : NS x15 (.slice (some ⟨c15, 0, none⟩) 1 1) [sLi] := RdS.new hX15 rfl (nmsC_one _)
    skip
    refine zl_call (by first | exact want_none | exact want_L rfl) rfl (by decide) rfl ((hS14.no hX15.chg).hasZ hNl hn15 (by simp) 2 (z := kHas i 2 sLi) rfl) ?_
    rintro _ y15 ⟨rfl, hY15⟩
    refine ⟨_, rfl, ?_⟩
    have hS15 := (hS14.no hX15.chg).no hY15
    have hb8 := (hb8.no hX15.chg).no hY15
    have hb9 := (hb9.no hX15.chg).no hY15
    refine z_not (by first | exact want_none | exact want_L rfl) (by decide) rfl ?_
    refine z_bsE (kIn i) (by first | exact want_none | exact want_L rfl) (by decide) rfl (by decide) (by decide) (by kernel_rfl) (fun z1 bz hZ => ?_)
    have g8 : z1.cell? ⟨b8, 0 + i, none⟩ = some (.int .i64 (kSp i).1) := by rw [Nat.zero_add]; exact ((hb8.no hZ.chg).cell i).trans (kUp_get i hi6)
    have g9 : z1.cell? ⟨b9, 0 + i, none⟩ = some (.int .i64 (kSp i).2) := by rw [Nat.zero_add]; exact ((hb9.no hZ.chg).cell i).trans (kAh_get i hi6)
    have gz : z1.cell? ⟨bz, 0 + i, none⟩ = some (.bool true) := by rw [Nat.zero_add]; exact (hZ.blk.cell i).trans (kIn_get i hi6)
    have hE := (hS15.no hZ.chg).chg
    refine zl_pureL rfl ?_
    refine zl_nil ?_
    refine zk_seq ?_
    refine zc_seq ?_
    refine zc_region ?_
    iterate 3 (refine zl_pureL rfl ?_)
    refine z_ia want_none (by decide) rfl rfl (by omega) (by omega) ?_
    refine z_load1 (by first | exact want_none | exact want_L rfl) (by decide) rfl (cell_at g8 (by omega)) ?_
    refine z_cmpB (r := true) want_none (by decide) rfl rfl rfl (iff_of_true rfl (by omega)) ?_
    iterate 4 (refine zl_pureL rfl ?_)
    refine z_ia (want_L rfl) (by decide) rfl rfl (by omega) (by omega) ?_
    refine z_load1 (by first | exact want_none | exact want_L rfl) (by decide) rfl (cell_at g9 (by omega)) ?_
    refine z_cmpB (r := true) (want_L rfl) (by decide) rfl rfl rfl (iff_of_true rfl (by omega)) ?_
    iterate 4 (refine zl_pureL rfl ?_)
    refine z_ia (want_L rfl) (by decide) rfl rfl (by omega) (by omega) ?_
    refine z_load1 (by first | exact want_none | exact want_L rfl) (by decide) rfl (cell_at gz (by omega)) ?_
    iterate 2 (refine zl_pureL rfl ?_)
    refine zl_nil ?_
    refine zk_seq ?_
    refine zc_ret ?_
    exact zk_ret1 (.inr rfl) rfl rfl ⟨rfl, hE.below⟩
end Go.Proofs.Yteeibieaapiomaa.D
/- SFosL -/
/- SiteFosters: the law. -/
namespace Go.Proofs.Yteeibieaapiomaa.D
open Go Go.Z Go.Proofs
set_option linter.unusedVariables false
def sTbd : ByteArray := ⟨#[116, 98, 111, 100, 121]⟩
def fL : Nat → List ByteArray
  | 0 => []
  | 1 => [sTbl]
  | 2 => [sTbl, sTbd]
  | _ => [sTbl, sTbd, sTr]
def fNm : List ByteArray := [sTbl, sTbd, sTr]
theorem fL_succ : ∀ n, n < 3 → fL n ++ [fNm.getD n eb] = fL (n + 1) ∧ (fL n).length = n := by
  intro n hn
  match n, hn with
  | 0, _ | 1, _ | 2, _ => exact ⟨rfl, rfl⟩
theorem fL_len : ∀ n, n ≤ 3 → (fL n).length = n := by
  intro n hn
  match n, hn with
  | 0, _ | 1, _ | 2, _ | 3, _ => rfl
def rtF (ks : List Nat) : ND := ⟨1, 1, ⟨#[]⟩, [], [], -1, ks⟩
def elF (nm : ByteArray) (up : Int) (ks : List Nat) : ND := ⟨1, 1, nm, [], [], up, ks⟩
def txF (t : List UInt8) (up : Int) : ND := ⟨2, 0, ⟨#[]⟩, [], t, up, []⟩
def fN : Bool → Nat → List UInt8 → List ND
  | true, 1, t => [rtF [2, 1], elF sTbl 0 [], txF t 0]
  | true, 2, t => [rtF [3, 1], elF sTbl 0 [2], elF sTbd 1 [], txF t 0]
  | true, _, t => [rtF [4, 1], elF sTbl 0 [2], elF sTbd 1 [3], elF sTr 2 [], txF t 0]
  | false, 1, t => [rtF [1], elF sTbl 0 [2], txF t 1]
  | false, 2, t => [rtF [1], elF sTbl 0 [2], elF sTbd 1 [3], txF t 2]
  | false, _, t => [rtF [1], elF sTbl 0 [2], elF sTbd 1 [3], elF sTr 2 [4], txF t 3]
theorem WriteR.eq {N N' M : List ND} {s : List UInt8} {up ahead : Int} {p : Bool} (h : WriteR N s up ahead p N') (ho : WriteOk N up ahead) (he : writeN N s up.toNat ((placeN (ndOf N up).kids ahead).getD 0) = M) : N' = M := ((h.1 ho).2).trans he
theorem f_write1 {on : Bool} {n : Nat} (h1 : 1 ≤ n) (h3 : n ≤ 3) {x : UInt8} {r : List UInt8} {p : Bool} {N' : List ND} (h : WriteR (lnN (fL n)) (x :: r) (spotN (lnN (fL n)) (lnE (fL n)) on (n : Nat)).1 (spotN (lnN (fL n)) (lnE (fL n)) on (n : Nat)).2 p N') : N' = fN on n (x :: r) := by
  cases on <;> match n, h1, h3 with
  | 1, _, _ | 2, _, _ | 3, _, _ => exact h.eq ⟨⟨by decide, by decide⟩, by rfl, by rfl⟩ (by rfl)
theorem f_spot {on : Bool} {n : Nat} (h1 : 1 ≤ n) (h3 : n ≤ 3) (t : List UInt8) : spotN (fN on n t) (lnE (fL n)) on (n : Nat) = spotN (lnN (fL n)) (lnE (fL n)) on (n : Nat) := by
  cases on <;> match n, h1, h3 with
  | 1, _, _ | 2, _, _ | 3, _, _ => rfl
theorem f_write2 {on : Bool} {n : Nat} (h1 : 1 ≤ n) (h3 : n ≤ 3) (t : List UInt8) {x : UInt8} {r : List UInt8} {p : Bool} {N' : List ND} (h : WriteR (fN on n t) (x :: r) (spotN (fN on n t) (lnE (fL n)) on (n : Nat)).1 (spotN (fN on n t) (lnE (fL n)) on (n : Nat)).2 p N') : N' = fN on n (t ++ x :: r) := by
  rw [f_spot h1 h3] at h
  cases on <;> match n, h1, h3 with
  | 1, _, _ | 2, _, _ | 3, _, _ => exact h.eq ⟨⟨by (show (0:Int) ≤ _; decide), by (show _ < (_ : Int); simp [fN]; decide)⟩, by rfl, by rfl⟩ (by rfl)
theorem f_big {on : Bool} {n : Nat} (h1 : 1 ≤ n) (h3 : n ≤ 3) (t : List UInt8) (ht : t.length ≤ 1000) : BigT (fN on n t) := BigT.of (fun x hx => by
  cases on <;> match n, h1, h3 with
  | 1, _, _ | 2, _, _ | 3, _, _ =>
    simp only [fN, List.mem_cons, List.not_mem_nil, or_false] at hx
    rcases hx with rfl | rfl | rfl | rfl | rfl <;> (constructor <;> simp [rtF, elF, txF] <;> omega))
theorem f_treeOn {n : Nat} (h1 : 1 ≤ n) (h3 : n ≤ 3) (t : List UInt8) : ∃ x y k, x.text = bs t ∧ y.name = sTbl ∧ txts (.cons x .nil (.cons y k .nil)) = [bs t] ∧ TF (fN true n t) ((fN true n t).getD 0 n0).kids (.cons x .nil (.cons y k .nil)) ∧ (NT.cons x .nil (.cons y k .nil)).size ≤ 10 := by
  match n, h1, h3 with
  | 1, _, _ => exact ⟨hdOf (txF t 0), hdOf (elF sTbl 0 []), .nil, rfl, rfl, rfl, .cons _ _ _ _ .nil (.cons _ _ _ _ .nil .nil), Nat.le_of_ble_eq_true rfl⟩
  | 2, _, _ => exact ⟨hdOf (txF t 0), hdOf (elF sTbl 0 [2]), .cons (hdOf (elF sTbd 1 [])) .nil .nil, rfl, rfl, rfl, .cons _ _ _ _ .nil (.cons _ _ _ _ (.cons _ _ _ _ .nil .nil) .nil), Nat.le_of_ble_eq_true rfl⟩
  | 3, _, _ => exact ⟨hdOf (txF t 0), hdOf (elF sTbl 0 [2]), .cons (hdOf (elF sTbd 1 [3])) (.cons (hdOf (elF sTr 2 [])) .nil .nil) .nil, rfl, rfl, rfl, .cons _ _ _ _ .nil (.cons _ _ _ _ (.cons _ _ _ _ (.cons _ _ _ _ .nil .nil) .nil) .nil), Nat.le_of_ble_eq_true rfl⟩
theorem f_treeOff {n : Nat} (h1 : 1 ≤ n) (h3 : n ≤ 3) (t : List UInt8) : ∃ y k, y.name = sTbl ∧ (txts (.cons y k .nil)).length = 1 ∧ deepT (.cons y k .nil) = n + 1 ∧ TF (fN false n t) ((fN false n t).getD 0 n0).kids (.cons y k .nil) ∧ (NT.cons y k .nil).size ≤ 10 := by
  match n, h1, h3 with
  | 1, _, _ => exact ⟨hdOf (elF sTbl 0 [2]), .cons (hdOf (txF t 1)) .nil .nil, rfl, rfl, rfl, .cons _ _ _ _ (.cons _ _ _ _ .nil .nil) .nil, Nat.le_of_ble_eq_true rfl⟩
  | 2, _, _ => exact ⟨hdOf (elF sTbl 0 [2]), .cons (hdOf (elF sTbd 1 [3])) (.cons (hdOf (txF t 2)) .nil .nil) .nil, rfl, rfl, rfl, .cons _ _ _ _ (.cons _ _ _ _ (.cons _ _ _ _ .nil .nil) .nil) .nil, Nat.le_of_ble_eq_true rfl⟩
  | 3, _, _ => exact ⟨hdOf (elF sTbl 0 [2]), .cons (hdOf (elF sTbd 1 [3])) (.cons (hdOf (elF sTr 2 [4])) (.cons (hdOf (txF t 3)) .nil .nil) .nil) .nil, rfl, rfl, rfl, .cons _ _ _ _ (.cons _ _ _ _ (.cons _ _ _ _ (.cons _ _ _ _ .nil .nil) .nil) .nil) .nil, Nat.le_of_ble_eq_true rfl⟩
end Go.Proofs.Yteeibieaapiomaa.D
/- SFos -/
/- SiteFosters: the walk. -/
namespace Go.Proofs.Yteeibieaapiomaa.D
open Go Go.Z Go.Proofs
set_option linter.unusedVariables false
set_option maxRecDepth 100000 in
set_option maxHeartbeats 16000000 in
theorem SiteFosters_walk (k : Int) (a b : ByteArray) (on : Bool) (w : World) (ha : a.size ≤ 140737488351232) (hb : b.size ≤ 140737488351232) : Calls Try.prog 6 #[.int .i64 k, .string a, .string b, .bool on] w fun e w' => e = .returned (.bool true) ∧ RowKit.Below w.heap.size w w' := by
  show Calls Try.prog 6 [Value.int .i64 k, .string a, .string b, .bool on].toArray w _
  obtain ⟨i, hi⟩ := Int.eq_ofNat_of_zero_le (Int.emod_nonneg k (show ((3 : Nat) : Int) ≠ 0 by decide))
  have hi3 : i < 3 := by have := Int.emod_lt_of_pos k (show (0 : Int) < ((3 : Nat) : Int) by decide); omega
  obtain ⟨la, rfl⟩ := bs_ex a
  obtain ⟨lb, rfl⟩ := bs_ex b
  rw [bs_size] at ha hb
  refine calls_zc (n := 115) (f := 6) (fn := Try.f6) Try.func6 rfl rfl (by simp) ?_
  refine zc_seq ?_
  refine zc_region ?_
  refine zl_pureL rfl ?_
  refine zl_nil ?_
  refine zk_seq ?_
  iterate 2 (refine zc_seq ?_)
  refine zc_region ?_
  refine zl_call (by first | exact want_none | exact want_L rfl) rfl (by decide) rfl known8_calls ?_
  rintro _ w1 ⟨rfl, hC1⟩
  refine ⟨_, rfl, ?_⟩
  refine zl_pureL rfl ?_
  refine zl_nil ?_
  refine zk_seq ?_
  refine zc_false rfl ?_
  refine zc_skip ?_
  refine zk_seq ?_
  iterate 2 (refine zc_seq ?_)
  refine zc_region ?_
  refine zl_pureL rfl ?_
  refine z_eqLB (q := decide (la = [])) (by first | exact want_none | exact want_L rfl) (by decide) rfl rfl decide_eq_true_iff ?_
  cases la with
  | nil =>
    iterate 2 (refine zl_pureL rfl ?_)
    refine zl_skip rfl ?_
    iterate 3 (refine zl_pureL rfl ?_)
    refine zl_skip rfl ?_
    refine zl_pureL rfl ?_
    iterate 3 (refine zl_skip rfl ?_)
    refine zl_pureL rfl ?_
    refine zl_nil ?_
    refine zk_seq ?_
    refine zc_true rfl ?_
    refine zc_seq ?_
    refine zc_region ?_
    refine zl_pureL rfl ?_
    refine zl_nil ?_
    refine zk_seq ?_
    refine zc_ret ?_
    refine zk_ret_then ?_
    exact zk_ret1 (.inr rfl) rfl rfl ⟨rfl, hC1.below⟩
  | cons xa ra =>
  rw [decide_eq_false (by simp)]
  iterate 2 (refine zl_pureL rfl ?_)
  refine z_eqLB (q := decide (lb = [])) (by first | exact want_none | exact want_L rfl) (by decide) rfl rfl decide_eq_true_iff ?_
  cases lb with
  | nil =>
    iterate 3 (refine zl_pureL rfl ?_)
    refine zl_skip rfl ?_
    refine zl_pureL rfl ?_
    iterate 3 (refine zl_skip rfl ?_)
    refine zl_pureL rfl ?_
    refine zl_nil ?_
    refine zk_seq ?_
    refine zc_true rfl ?_
    refine zc_seq ?_
    refine zc_region ?_
    refine zl_pureL rfl ?_
    refine zl_nil ?_
    refine zk_seq ?_
    refine zc_ret ?_
    refine zk_ret_then ?_
    exact zk_ret1 (.inr rfl) rfl rfl ⟨rfl, hC1.below⟩
  | cons xb rb =>
  rw [decide_eq_false (by simp)]
  iterate 3 (refine zl_pureL rfl ?_)
  refine z_lenL (want_L rfl) (by decide) rfl ?_
  refine zl_pureL rfl ?_
  refine z_lenL (want_L rfl) (by decide) rfl ?_
  refine z_add (want_L rfl) (by decide) rfl rfl (by omega) (by omega) ?_
  by_cases hlen : (xa :: ra).length + (xb :: rb).length ≤ 200
  rotate_left
  · refine z_cmpB (r := true) (want_L rfl) (by decide) rfl rfl rfl (iff_of_true rfl (by omega)) ?_
    refine zl_pureL rfl ?_
    refine zl_nil ?_
    refine zk_seq ?_
    refine zc_true rfl ?_
    refine zc_seq ?_
    refine zc_region ?_
    refine zl_pureL rfl ?_
    refine zl_nil ?_
    refine zk_seq ?_
    refine zc_ret ?_
    refine zk_ret_then ?_
    exact zk_ret1 (.inr rfl) rfl rfl ⟨rfl, hC1.below⟩
  refine z_cmpB (r := false) (want_L rfl) (by decide) rfl rfl rfl (iff_of_false Bool.false_ne_true (by omega)) ?_
  refine zl_pureL rfl ?_
  refine zl_nil ?_
  refine zk_seq ?_
  refine zc_false rfl ?_
  refine zc_skip ?_
  refine zk_seq ?_
  refine zc_seq ?_
  refine zc_region ?_
  refine zl_call (by first | exact want_none | exact want_L rfl) rfl (by decide) rfl (sNewL_calls hC1) ?_
  rintro _ w2 ⟨s, q, rfl, h2, _, _⟩
  refine ⟨_, rfl, ?_⟩
  refine zl_pureL rfl ?_
  refine zl_nil ?_
  refine zk_seq ?_
  iterate 2 (refine zc_seq ?_)
  refine zc_region ?_
  refine zl_pureL rfl ?_
  refine z_eqPN (by first | exact want_none | exact want_L rfl) (by decide) rfl rfl ?_
  iterate 2 (refine zl_pureL rfl ?_)
  refine zl_call (by first | exact want_none | exact want_L rfl) rfl (by decide) rfl (sDoc_calls h2.is) ?_
  rintro _ u ⟨rfl, hu⟩
  obtain rfl := hu.symm
  refine ⟨_, rfl, ?_⟩
  refine z_eqPN (by first | exact want_none | exact want_L rfl) (by decide) rfl rfl ?_
  refine zl_pureL rfl ?_
  refine zl_nil ?_
  refine zk_seq ?_
  refine zc_false rfl ?_
  refine zc_skip ?_
  refine zk_seq ?_
  refine zc_seq ?_
  refine zc_region ?_
  refine z_bsE (nmsC fNm) (by first | exact want_none | exact want_L rfl) (by decide) rfl (by decide) (by decide) (by kernel_rfl) (fun w3 b7 hN7 => ?_)
  have hns : NS w3 (.slice (some ⟨b7, 0, none⟩) 3 3) fNm := RdS.new hN7 rfl (nmsC_one _)
  have h3 := h2.no hN7.chg
  refine zl_pureL rfl ?_
  refine zl_nil ?_
  refine zk_seq ?_
  refine zc_seq ?_
  refine zc_region ?_
  refine zl_pureL rfl ?_
  refine zl_call (by first | exact want_none | exact want_L rfl) rfl (by decide) rfl (within8_calls (n := 3) (by decide) (by decide)) ?_
  rintro _ u ⟨rfl, hu⟩
  obtain rfl := hu.symm
  refine ⟨_, rfl, ?_⟩
  rw [hi]
  refine z_add want_none (by decide) rfl rfl (by omega) (by omega) ?_
  refine zl_pureL rfl ?_
  refine zl_nil ?_
  refine zk_seq ?_
  iterate 2 (refine zc_seq ?_)
  refine zc_region ?_
  refine zl_pureL rfl ?_
  refine zl_nil ?_
  refine zk_seq ?_
  refine zc_block ?_
  obtain ⟨n, hn⟩ : ∃ n, n = i + 1 := ⟨_, rfl⟩
  have hn1 : (1 : Int) + (i : Nat) = (n : Nat) := by omega
  rw [hn1]
  refine zc_loopW (ι := Nat × SP × List Bool × (ByteArray → Int)) (fun k u => [(1, .string (bs (xa :: ra))), (2, .string (bs (xb :: rb))), (3, .bool on), (9, .pointer (some ⟨s, 0, none⟩)), (10, .slice (some ⟨b7, 0, none⟩) 3 3), (11, .int .i64 (n : Nat)), (12, .int .i64 (k.1 : Nat))])
    (fun k u => k.1 ≤ n ∧ SF w u s k.2.1 (lnE (fL k.1)) k.2.2.1 k.2.2.2 (lnN (fL k.1)) false ∧ WrS w3 u s q k.2.1) (fun k u => n - k.1) (0, q, [true], fun _ => 0)
    ⟨Nat.zero_le _, h3, WrS.refl _ _ _⟩ ?_ ?_
  · exact ⟨rfl, rfl, rfl, rfl, rfl, rfl, rfl, trivial⟩
  rintro ⟨j, qj, Ij, mj⟩ u ⟨hj, hS, hW⟩
  dsimp only at hj hS hW ⊢
  have hnu : NS u (.slice (some ⟨b7, 0, none⟩) 3 3) fNm := RdS.chg hns hW.chg (fun b cells hb => h3.is.noT hb (by decide) (by decide) (by decide) (by decide) (by decide) (by decide) (by decide) (by decide))
  iterate 2 (refine zc_seq ?_)
  refine zc_region ?_
  iterate 2 (refine zl_pureL rfl ?_)
  by_cases hlt : j < n
  · obtain ⟨bn, on', cn, hvn, _, hcn⟩ := RdS.some hnu (by decide)
    cases hvn
    have gx : u.cell? ⟨b7, 0 + j, none⟩ = some (.string (fNm.getD j eb)) := hcn j _ (nmsC_get fNm j (by show j < 3; omega))
    obtain ⟨e1, e2⟩ := fL_succ j (by omega)
    refine z_cmpB (r := true) want_none (by decide) rfl rfl rfl (iff_of_true rfl (by omega)) ?_
    refine zl_nil ?_
    refine zk_seq ?_
    refine zc_true rfl ?_
    refine zc_skip ?_
    refine zk_seq ?_
    refine zc_seq ?_
    refine zc_block ?_
    refine zc_region ?_
    iterate 3 (refine zl_pureL rfl ?_)
    refine z_ia want_none (by decide) rfl rfl (by omega) (by omega) ?_
    refine z_load1 (by first | exact want_none | exact want_L rfl) (by decide) rfl (cell_at gx (by omega)) ?_
    skip
    refine zl_call (by first | exact want_none | exact want_L rfl) rfl (by decide) rfl (hS.addL (by rw [e2]; omega) (fNm.getD j eb) rfl) ?_
    rintro _ u2 ⟨rfl, q2, I2, m2, hq2, hW2, hS2⟩
    refine ⟨_, rfl, ?_⟩
    rw [e1] at hS2
    refine zl_nil ?_
    refine zk_norm_block ?_
    refine zk_seq ?_
    refine zc_region ?_
    refine zl_pureL rfl ?_
    refine z_add want_none (by decide) rfl rfl (by omega) (by omega) ?_
    refine zl_pureL rfl ?_
    refine zl_nil ?_
    refine zk_loopW (j + 1, q2, I2, m2) ⟨by dsimp only; omega, hS2, hW.trans hW2⟩ (by dsimp only; omega) ⟨rfl, rfl, rfl, rfl, rfl, rfl, rfl, trivial⟩
  · obtain rfl : j = n := by omega
    have hfl := fL_len j (by omega)
    have hlast : ((lastE (lnE (fL j))).n : Int) = (j : Nat) := by rw [lnE_last, hfl]
    refine z_cmpB (r := false) want_none (by decide) rfl rfl rfl (iff_of_false Bool.false_ne_true (by omega)) ?_
    refine zl_nil ?_
    refine zk_seq ?_
    refine zc_false rfl ?_
    refine zc_exit ?_
    iterate 2 (refine zk_exit_then ?_)
    refine zk_exit_block ?_
    refine zk_seq ?_
    refine zc_seq ?_
    refine zc_region ?_
    iterate 2 (refine zl_pureL rfl ?_)
    refine zl_call (by first | exact want_none | exact want_L rfl) rfl (by decide) rfl (hS.foster on) ?_
    rintro _ u1 ⟨rfl, hS1, _⟩
    refine ⟨_, rfl, ?_⟩
    refine zl_nil ?_
    refine zk_seq ?_
    refine zc_seq ?_
    refine zc_region ?_
    iterate 2 (refine zl_pureL rfl ?_)
    refine zl_call (by first | exact want_none | exact want_L rfl) rfl (by decide) rfl (hS1.type (lnN_big _) (by rw [lnN_len]; omega) (xa :: ra) (by omega)) ?_
    rintro _ u2 ⟨rfl, q2, N2, p2, _, _, hR2, hS2⟩
    refine ⟨_, rfl, ?_⟩
    rw [hlast] at hR2
    have e2 := f_write1 (by omega) (by omega) hR2
    subst e2
    have hfn : ∀ t, (fN on j t).length ≤ 5 := fun t => by unfold fN; split <;> simp
    have hl2 := hfn (xa :: ra)
    refine zl_nil ?_
    refine zk_seq ?_
    refine zc_seq ?_
    refine zc_region ?_
    iterate 2 (refine zl_pureL rfl ?_)
    refine zl_call (by first | exact want_none | exact want_L rfl) rfl (by decide) rfl (hS2.type (f_big (by omega) (by omega) _ (by omega)) (by omega) (xb :: rb) (by omega)) ?_
    rintro _ u3 ⟨rfl, q3, N3, p3, _, _, hR3, hS3⟩
    refine ⟨_, rfl, ?_⟩
    rw [hlast] at hR3
    have e3 := f_write2 (by omega) (by omega) _ hR3
    subst e3
    obtain ⟨T, hT⟩ : ∃ T, T = xa :: ra ++ xb :: rb := ⟨_, rfl⟩
    have hTl : T.length ≤ 200 := by rw [hT, List.length_append]; omega
    rw [← hT] at hS3
    have hl3 := hfn T
    have hB3 := f_big (on := on) (n := j) (by omega) (by omega) T (by omega)
    refine zl_nil ?_
    refine zk_seq ?_
    refine zc_seq ?_
    refine zc_region ?_
    refine zl_pureL rfl ?_
    refine zl_call (by first | exact want_none | exact want_L rfl) rfl (by decide) rfl (sDoc_calls hS3.is) ?_
    rintro _ v ⟨rfl, hv⟩
    obtain rfl := hv.symm
    refine ⟨_, rfl, ?_⟩
    skip
    cases on
    · obtain ⟨y, kk, hy, htx, hdp, hTF, hsz⟩ := f_treeOff (n := j) (by omega) (by omega) T
      refine zl_call (by first | exact want_none | exact want_L rfl) rfl (by decide) rfl (tree_calls hS3.wf (by omega) hB3 _ hS3.is.doc 0 hS3.wf.pos _ hTF (Nat.le_refl _)) ?_
      rintro _ u4 ⟨vo, rfl, hT4, hC4⟩
      refine ⟨_, rfl, ?_⟩
      have hA4 := hT4.at'
      obtain ⟨bt, ot, ct, x', k', r', A', K', e5, hv5, hc5, _, _⟩ := hA4.at_ 0 (by show 0 < 1; decide)
      cases e5
      have hv6 : vo = .slice (some ⟨bt, ot, none⟩) 1 ct := hv5
      clear hv5
      subst hv6
      have g2 := hc5.c2
      rw [hy] at g2
      refine zl_pureL rfl ?_
      refine zl_nil ?_
      refine zk_seq ?_
      iterate 2 (refine zc_seq ?_)
      refine zc_region ?_
      refine zl_pureL rfl ?_
      refine zl_nil ?_
      refine zk_seq ?_
      refine zc_false rfl ?_
      refine zc_skip ?_
      refine zk_seq ?_
      refine zc_seq ?_
      refine zc_region ?_
      refine zl_pureL rfl ?_
      refine z_len want_none (by decide) rfl ?_
      refine z_cmpB (r := true) want_none (by decide) rfl rfl rfl (iff_of_true rfl (by omega)) ?_
      iterate 2 (refine zl_pureL rfl ?_)
      refine z_ia (want_L rfl) (by decide) rfl rfl (by omega) (by omega) ?_
      refine z_fa (want_L rfl) (by decide) rfl ?_
      refine z_load1 (want_L rfl) (by decide) rfl (by assumption) ?_
      refine z_eqSB (a := sTbl) (b := sTbl) (by first | exact want_none | exact want_L rfl) (by decide) rfl rfl ?_
      rw [decide_eq_true rfl]
      iterate 3 (refine zl_pureL rfl ?_)
      refine zl_call (by first | exact want_none | exact want_L rfl) rfl (by decide) rfl (textsR_calls 10 hA4 (hTF.few (fun i => (hB3 i).2)) hsz (by decide)) ?_
      rintro _ u5 ⟨v5, rfl, hs5, hC5⟩
      refine ⟨_, rfl, ?_⟩
      obtain ⟨A5, c5, rfl, _⟩ := hs5.form
      rw [htx]
      refine z_len (want_L rfl) (by decide) rfl ?_
      refine z_cmpB (r := true) (want_L rfl) (by decide) rfl rfl rfl (iff_of_true rfl (by omega)) ?_
      iterate 3 (refine zl_pureL rfl ?_)
      refine zl_call (by first | exact want_none | exact want_L rfl) rfl (by decide) rfl (deepR_calls 10 (hA4.no hC5) hsz (by decide)) ?_
      rintro _ u6 ⟨rfl, hC6⟩
      refine ⟨_, rfl, ?_⟩
      rw [hdp]
      have hE := (((hS3.no hC4).no hC5).no hC6).chg
      refine zl_pureL rfl ?_
      refine z_add (want_L rfl) (by decide) rfl rfl (by omega) (by omega) ?_
      refine z_cmpB (r := true) (want_L rfl) (by decide) rfl rfl rfl (iff_of_true rfl (by omega)) ?_
      iterate 2 (refine zl_pureL rfl ?_)
      refine zl_nil ?_
      refine zk_seq ?_
      refine zc_ret ?_
      exact zk_ret1 (.inr rfl) rfl rfl ⟨rfl, hE.below⟩
    · obtain ⟨x, y, kk, hx, hy, htx, hTF, hsz⟩ := f_treeOn (n := j) (by omega) (by omega) T
      refine zl_call (by first | exact want_none | exact want_L rfl) rfl (by decide) rfl (tree_calls hS3.wf (by omega) hB3 _ hS3.is.doc 0 hS3.wf.pos _ hTF (Nat.le_refl _)) ?_
      rintro _ u4 ⟨vo, rfl, hT4, hC4⟩
      refine ⟨_, rfl, ?_⟩
      have hA4 := hT4.at'
      obtain ⟨bt, ot, ct, x', k', r', A', K', e5, hv5, hc5, _, _⟩ := hA4.at_ 0 (by show 0 < 2; decide)
      cases e5
      have hv6 : vo = .slice (some ⟨bt, ot, none⟩) 2 ct := hv5
      clear hv5
      subst hv6
      obtain ⟨bt2, ot2, ct2, x2, k2, r2, A2, K2, e6, hv6, hc6, _, _⟩ := hA4.at_ 1 (by show 1 < 2; decide)
      cases e6
      cases hv6
      have g4 := hc5.c4
      rw [hx] at g4
      have g2 := hc6.c2
      rw [hy] at g2
      refine zl_pureL rfl ?_
      refine zl_nil ?_
      refine zk_seq ?_
      iterate 2 (refine zc_seq ?_)
      refine zc_region ?_
      refine zl_pureL rfl ?_
      refine zl_nil ?_
      refine zk_seq ?_
      refine zc_true rfl ?_
      refine zc_seq ?_
      refine zc_region ?_
      refine zl_pureL rfl ?_
      refine z_len want_none (by decide) rfl ?_
      refine z_cmpB (r := true) want_none (by decide) rfl rfl rfl (iff_of_true rfl (by omega)) ?_
      iterate 2 (refine zl_pureL rfl ?_)
      refine z_ia (want_L rfl) (by decide) rfl rfl (by omega) (by omega) ?_
      refine z_fa (want_L rfl) (by decide) rfl ?_
      refine z_load1 (want_L rfl) (by decide) rfl (by assumption) ?_
      iterate 2 (refine zl_pureL rfl ?_)
      refine z_catL (want_L rfl) (by decide) rfl rfl (by omega) ?_
      rw [← hT]
      refine z_eqSB (a := bs T) (b := bs T) (by first | exact want_none | exact want_L rfl) (by decide) rfl rfl ?_
      rw [decide_eq_true rfl]
      iterate 3 (refine zl_pureL rfl ?_)
      refine z_ia (want_L rfl) (by decide) rfl rfl (by omega) (by omega) ?_
      refine z_fa (want_L rfl) (by decide) rfl ?_
      refine z_load1 (want_L rfl) (by decide) rfl (by assumption) ?_
      refine z_eqSB (a := sTbl) (b := sTbl) (by first | exact want_none | exact want_L rfl) (by decide) rfl rfl ?_
      rw [decide_eq_true rfl]
      iterate 3 (refine zl_pureL rfl ?_)
      refine zl_call (by first | exact want_none | exact want_L rfl) rfl (by decide) rfl (textsR_calls 10 hA4 (hTF.few (fun i => (hB3 i).2)) hsz (by decide)) ?_
      rintro _ u5 ⟨v5, rfl, hs5, hC5⟩
      refine ⟨_, rfl, ?_⟩
      obtain ⟨A5, c5, rfl, _⟩ := hs5.form
      have hl1 : (txts (NT.cons x .nil (.cons y kk .nil))).length = 1 := by rw [htx]; rfl
      rw [hl1]
      have hE := ((hS3.no hC4).no hC5).chg
      refine z_len (want_L rfl) (by decide) rfl ?_
      refine z_cmpB (r := true) (want_L rfl) (by decide) rfl rfl rfl (iff_of_true rfl (by omega)) ?_
      iterate 2 (refine zl_pureL rfl ?_)
      refine zl_nil ?_
      refine zk_seq ?_
      refine zc_ret ?_
      refine zk_ret_then ?_
      exact zk_ret1 (.inr rfl) rfl rfl ⟨rfl, hE.below⟩
end Go.Proofs.Yteeibieaapiomaa.D
