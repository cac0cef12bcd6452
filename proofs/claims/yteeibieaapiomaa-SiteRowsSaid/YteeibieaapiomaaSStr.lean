import Derived.Test.YteeibieaapiomaaSSite5
/- A Site: names among names. -/
namespace Go.Proofs.Yteeibieaapiomaa.D
open Go Go.Z Go.Proofs
set_option linter.unusedVariables false
def nmsC (l : List ByteArray) : List Value := l.map (fun s => .string s)
theorem nmsC_len (l : List ByteArray) : (nmsC l).length = l.length * 1 := by simp [nmsC]
theorem nmsC_one (l : List ByteArray) : ∀ u ∈ nmsC l, u.oneCell' = true := by
  intro u hu
  obtain ⟨s, _, rfl⟩ := List.mem_map.1 hu
  rfl
def eb : ByteArray := ⟨#[]⟩
theorem nmsC_get (l : List ByteArray) (i : Nat) (h : i < l.length) : (nmsC l)[i]? = some (.string (l.getD i eb)) := by
  simp [nmsC, List.getElem?_map, List.getElem?_eq_getElem h, List.getD_eq_getElem?_getD]
def NS (w : World) (v : Value) (l : List ByteArray) : Prop := RdS w 9 1 v l.length (nmsC l)
theorem NS.no {w w' : World} {v : Value} {l : List ByteArray} (h : NS w v l) (hc : Chg w w' No) : NS w' v l := RdS.no h hc
theorem NS.form {w : World} {v : Value} {l : List ByteArray} (h : NS w v l) : ∃ A c, v = .slice A l.length c ∧ l.length ≤ c := RdS.form h
def memB (x : ByteArray) (l : List ByteArray) : Bool := l.any (fun y => decide (y = x))
theorem memB_iff {x : ByteArray} {l : List ByteArray} : memB x l = true ↔ x ∈ l := by
  unfold memB
  rw [List.any_eq_true]
  exact ⟨fun ⟨y, h1, h2⟩ => by rw [decide_eq_true_eq] at h2; exact h2 ▸ h1, fun h => ⟨x, h, by simp⟩⟩
theorem memB_no {x : ByteArray} {l : List ByteArray} (h : ¬ x ∈ l) : memB x l = false := by
  rcases hb : memB x l with _ | _
  · rfl
  · exact absurd (memB_iff.1 hb) h
theorem mem_at {l : List ByteArray} {i : Nat} (h : i < l.length) : l.getD i eb ∈ l := getD_mem h
theorem sIndex_calls {w : World} {v : Value} {l : List ByteArray} (h : NS w v l) (hl : l.length ≤ 1000000) (x : ByteArray) : Calls Try.prog 108 [v, .string x].toArray w fun e w' => (∃ z : Int, e = .returned (.int .i64 z) ∧ (0 ≤ z ↔ x ∈ l)) ∧ w' = w := by
  obtain ⟨A, c, rfl, hc⟩ := h.form
  refine calls_zc (n := 19) (f := 108) (fn := Try.f108) Try.func108 rfl rfl (by simp) ?_
  refine zc_seq ?_
  refine zc_region ?_
  refine zl_pureL rfl ?_
  refine zl_nil ?_
  refine zk_seq ?_
  iterate 2 (refine zc_seq ?_)
  refine zc_region ?_
  refine zl_pureL rfl ?_
  refine z_len want_none (by decide) rfl ?_
  refine zl_pureL rfl ?_
  refine zl_nil ?_
  refine zk_seq ?_
  refine zc_block ?_
  refine zc_loop (ι := Nat) (fun k => [(0, .slice A l.length c), (1, .string x), (7, .int .i64 l.length), (8, .int .i64 k)]) (fun _ => w) (fun k => k ≤ l.length ∧ ∀ j, j < k → l.getD j eb ≠ x) (fun k => l.length - k) 0 ⟨Nat.zero_le _, fun j hj => absurd hj (Nat.not_lt_zero _)⟩ ?_ ?_ ?_
  · rfl
  · exact ⟨rfl, rfl, rfl, rfl, trivial⟩
  rintro k ⟨hk, hno⟩
  by_cases hlt : k < l.length
  · obtain ⟨b, o, c', hv, _, hcc⟩ := RdS.some h (by omega)
    cases hv
    have hcell := hcc k _ (nmsC_get l k hlt)
    refine zc_seq ?_
    refine zc_region ?_
    refine z_cmpB (r := true) want_none (by decide) rfl rfl rfl (iff_of_true rfl (by omega)) ?_
    refine zl_nil ?_
    refine zk_seq ?_
    refine zc_seq ?_
    refine zc_true rfl ?_
    refine zc_skip ?_
    refine zk_seq ?_
    refine zc_seq ?_
    refine zc_block ?_
    refine zc_seq ?_
    refine zc_region ?_
    iterate 2 (refine zl_pureL rfl ?_)
    refine zl_nil ?_
    refine zk_seq ?_
    refine zc_seq ?_
    refine zc_region ?_
    iterate 3 (refine zl_pureL rfl ?_)
    refine z_ia want_none (by decide) rfl rfl (by omega) (by omega) ?_
    refine z_load1 (by first | exact want_none | exact want_L rfl) (by decide) rfl (cell_at hcell (by omega)) ?_
    refine z_eqS (by first | exact want_none | exact want_L rfl) (by decide) rfl rfl (fun he => ?_) (fun he => ?_)
    · refine zl_nil ?_
      refine zk_seq ?_
      refine zc_true rfl ?_
      refine zc_seq ?_
      refine zc_region ?_
      iterate 2 (refine zl_pureL rfl ?_)
      refine zl_nil ?_
      refine zk_seq ?_
      refine zc_ret ?_
      refine zk_ret_block ?_
      iterate 2 (refine zk_ret_then ?_)
      refine zk_ret_block ?_
      refine zk_ret_then ?_
      exact zk_ret1 (.inr rfl) rfl rfl ⟨⟨_, rfl, iff_of_true (by omega) (by rw [he]; exact mem_at hlt)⟩, rfl⟩
    · refine zl_nil ?_
      refine zk_seq ?_
      refine zc_false rfl ?_
      refine zc_skip ?_
      refine zk_norm_block ?_
      refine zk_seq ?_
      refine zc_region ?_
      refine z_add want_none (by decide) rfl rfl (by omega) (by omega) ?_
      refine zl_pureL rfl ?_
      refine zl_nil ?_
      exact zk_loop (k + 1) ⟨by omega, fun j hj => by
        by_cases hjk : j = k
        · subst hjk; exact fun h' => he h'.symm
        · exact hno j (by omega)⟩ (by omega) rfl ⟨rfl, rfl, rfl, get_int rfl (by simp), trivial⟩
  · refine zc_seq ?_
    refine zc_region ?_
    refine z_cmpB (r := false) want_none (by decide) rfl rfl rfl (iff_of_false Bool.false_ne_true (by omega)) ?_
    refine zl_nil ?_
    refine zk_seq ?_
    refine zc_seq ?_
    refine zc_false rfl ?_
    refine zc_exit ?_
    iterate 2 (refine zk_exit_then ?_)
    refine zk_exit_block ?_
    refine zk_seq ?_
    refine zc_seq ?_
    refine zc_region ?_
    refine zl_pureL rfl ?_
    refine zl_nil ?_
    refine zk_seq ?_
    refine zc_ret ?_
    refine zk_ret1 (.inr rfl) rfl rfl ⟨⟨_, rfl, iff_of_false (by omega) (fun hm => ?_)⟩, rfl⟩
    obtain ⟨j, hj, hje⟩ := List.getElem_of_mem hm
    exact hno j (by omega) (by rw [List.getD_eq_getElem?_getD, List.getElem?_eq_getElem hj]; exact hje)
theorem sContains_calls {w : World} {v : Value} {l : List ByteArray} (h : NS w v l) (hl : l.length ≤ 1000000) (x : ByteArray) : Calls Try.prog 97 [v, .string x].toArray w fun e w' => e = .returned (.bool (memB x l)) ∧ w' = w := by
  obtain ⟨A, c, rfl, hc⟩ := h.form
  refine calls_zc (n := 9) (f := 97) (fn := Try.f97) Try.func97 rfl rfl (by simp) ?_
  refine zc_seq ?_
  refine zc_region ?_
  refine zl_pureL rfl ?_
  refine zl_nil ?_
  refine zk_seq ?_
  refine zc_seq ?_
  refine zc_region ?_
  iterate 2 (refine zl_pureL rfl ?_)
  refine zl_call (by first | exact want_none | exact want_L rfl) rfl (by decide) rfl (sIndex_calls h hl x) ?_
  rintro _ u ⟨⟨z, rfl, hz⟩, hu⟩
  obtain rfl := hu.symm
  refine ⟨_, rfl, ?_⟩
  by_cases h0 : 0 ≤ z
  · rw [memB_iff.2 (hz.1 h0)]
    refine z_cmpB (r := true) want_none (by decide) rfl rfl rfl (iff_of_true rfl (by omega)) ?_
    refine zl_pureL rfl ?_
    refine zl_nil ?_
    refine zk_seq ?_
    refine zc_ret ?_
    exact zk_ret1 (.inr rfl) rfl rfl ⟨rfl, rfl⟩
  · rw [memB_no (fun hm => h0 (hz.2 hm))]
    refine z_cmpB (r := false) want_none (by decide) rfl rfl rfl (iff_of_false Bool.false_ne_true (by omega)) ?_
    refine zl_pureL rfl ?_
    refine zl_nil ?_
    refine zk_seq ?_
    refine zc_ret ?_
    exact zk_ret1 (.inr rfl) rfl rfl ⟨rfl, rfl⟩
def isE (e : Ent) (l : List ByteArray) : Bool := decide (e.n ≠ 0 ∧ e.sp = 1) && memB e.nm l
theorem sEis_calls {w : World} {v : Value} {l : List ByteArray} (h : NS w v l) (hl : l.length ≤ 1000000) (e : Ent) : Calls Try.prog 75 [.agg #[.int .i64 e.n, .int .i64 e.sp, .string e.nm], v].toArray w fun x w' => x = .returned (.bool (isE e l)) ∧ Chg w w' No := by
  obtain ⟨A, c, rfl, hc⟩ := h.form
  unfold isE
  refine calls_zc (n := 19) (f := 75) (fn := Try.f75) Try.func75 rfl rfl (by simp) ?_
  refine zc_seq ?_
  refine zc_region ?_
  refine z_box (by first | exact want_none | exact want_L rfl) (by decide) rfl (fun w1 b1 hN1 => ?_)
  have hb1 : Blk w1 b1 74 [.int .i64 e.n, .int .i64 e.sp, .string e.nm] := hN1.blk
  by_cases h0 : e.n = 0
  · rw [decide_eq_false (show ¬ (e.n ≠ 0 ∧ e.sp = 1) from fun hh => hh.1 h0), Bool.false_and]
    refine zl_pureL rfl ?_
    refine zl_nil ?_
    refine zk_seq ?_
    refine zc_seq ?_
    refine zc_region ?_
    refine z_fa want_none (by decide) rfl ?_
    refine z_loadB want_none (by decide) rfl (by assumption) (by rfl) ?_
    refine z_cmpB (r := false) want_none (by decide) rfl rfl rfl (iff_of_false Bool.false_ne_true (by omega)) ?_
    refine zl_pureL rfl ?_
    iterate 3 (refine zl_skip rfl ?_)
    iterate 3 (refine zl_pureL rfl ?_)
    iterate 3 (refine zl_skip rfl ?_)
    iterate 2 (refine zl_pureL rfl ?_)
    refine zl_nil ?_
    refine zk_seq ?_
    refine zc_ret ?_
    exact zk_ret1 (.inr rfl) rfl rfl ⟨rfl, hN1.chg⟩
  by_cases h1 : e.sp = 1
  · rw [decide_eq_true (show e.n ≠ 0 ∧ e.sp = 1 from ⟨h0, h1⟩), Bool.true_and]
    refine zl_pureL rfl ?_
    refine zl_nil ?_
    refine zk_seq ?_
    refine zc_seq ?_
    refine zc_region ?_
    refine z_fa want_none (by decide) rfl ?_
    refine z_loadB want_none (by decide) rfl (by assumption) (by rfl) ?_
    refine z_cmpB (r := true) want_none (by decide) rfl rfl rfl (iff_of_true rfl (by omega)) ?_
    refine zl_pureL rfl ?_
    refine z_fa (want_L rfl) (by decide) rfl ?_
    refine z_loadB (want_L rfl) (by decide) rfl (by assumption) (by rfl) ?_
    refine z_cmpB (r := true) (want_L rfl) (by decide) rfl rfl rfl (iff_of_true rfl (by omega)) ?_
    iterate 3 (refine zl_pureL rfl ?_)
    refine z_fa (want_L rfl) (by decide) rfl ?_
    refine z_loadB (want_L rfl) (by decide) rfl (by assumption) (by rfl) ?_
    refine zl_call (by first | exact want_none | exact want_L rfl) rfl (by decide) rfl (sContains_calls (h.no hN1.chg) hl e.nm) ?_
    rintro _ u ⟨rfl, hu⟩
    obtain rfl := hu.symm
    refine ⟨_, rfl, ?_⟩
    cases memB e.nm l
    · iterate 2 (refine zl_pureL rfl ?_)
      refine zl_nil ?_
      refine zk_seq ?_
      refine zc_ret ?_
      exact zk_ret1 (.inr rfl) rfl rfl ⟨rfl, hN1.chg⟩
    · iterate 2 (refine zl_pureL rfl ?_)
      refine zl_nil ?_
      refine zk_seq ?_
      refine zc_ret ?_
      exact zk_ret1 (.inr rfl) rfl rfl ⟨rfl, hN1.chg⟩
  · rw [decide_eq_false (show ¬ (e.n ≠ 0 ∧ e.sp = 1) from fun hh => h1 hh.2), Bool.false_and]
    refine zl_pureL rfl ?_
    refine zl_nil ?_
    refine zk_seq ?_
    refine zc_seq ?_
    refine zc_region ?_
    refine z_fa want_none (by decide) rfl ?_
    refine z_loadB want_none (by decide) rfl (by assumption) (by rfl) ?_
    refine z_cmpB (r := true) want_none (by decide) rfl rfl rfl (iff_of_true rfl (by omega)) ?_
    refine zl_pureL rfl ?_
    refine z_fa (want_L rfl) (by decide) rfl ?_
    refine z_loadB (want_L rfl) (by decide) rfl (by assumption) (by rfl) ?_
    refine z_cmpB (r := false) (want_L rfl) (by decide) rfl rfl rfl (iff_of_false Bool.false_ne_true (by omega)) ?_
    iterate 3 (refine zl_pureL rfl ?_)
    iterate 3 (refine zl_skip rfl ?_)
    iterate 2 (refine zl_pureL rfl ?_)
    refine zl_nil ?_
    refine zk_seq ?_
    refine zc_ret ?_
    exact zk_ret1 (.inr rfl) rfl rfl ⟨rfl, hN1.chg⟩
section
variable {w w' : World} {s : Nat} {q : SP} {E : List Ent} {I : List Bool} {m : ByteArray → Int} {N : List ND} {f : Bool}
def someM (m : ByteArray → Int) (l : List ByteArray) : Prop := ∃ k ∈ l, 0 < m k
theorem sSome_calls (h : IsS w s q E I m N f) {v : Value} {l : List ByteArray} (hN : NS w v l) (hl : l.length ≤ 1000000) : Calls Try.prog 74 [.pointer (some ⟨s, 0, none⟩), v].toArray w fun x w' => (∃ q, x = .returned (.bool q) ∧ (q = true ↔ someM m l)) ∧ w' = w := by
  obtain ⟨A, c, rfl, hc⟩ := hN.form
  have hb := h.blk
  refine calls_zc (n := 21) (f := 74) (fn := Try.f74) Try.func74 rfl rfl (by simp) ?_
  refine zc_seq ?_
  refine zc_region ?_
  refine zl_pureL rfl ?_
  refine zl_nil ?_
  refine zk_seq ?_
  iterate 2 (refine zc_seq ?_)
  refine zc_region ?_
  refine zl_pureL rfl ?_
  refine z_len want_none (by decide) rfl ?_
  refine zl_pureL rfl ?_
  refine zl_nil ?_
  refine zk_seq ?_
  refine zc_block ?_
  refine zc_loop (ι := Nat) (fun k => [(0, .pointer (some ⟨s, 0, none⟩)), (7, .slice A l.length c), (8, .int .i64 l.length), (9, .int .i64 k)]) (fun _ => w) (fun k => k ≤ l.length ∧ ∀ j, j < k → ¬ 0 < m (l.getD j eb)) (fun k => l.length - k) 0 ⟨Nat.zero_le _, fun j hj => absurd hj (Nat.not_lt_zero _)⟩ ?_ ?_ ?_
  · rfl
  · exact ⟨rfl, rfl, rfl, rfl, trivial⟩
  rintro k ⟨hk, hno⟩
  by_cases hlt : k < l.length
  · obtain ⟨b, o, c', hv, _, hcc⟩ := RdS.some hN (by omega)
    cases hv
    have hcell := hcc k _ (nmsC_get l k hlt)
    refine zc_seq ?_
    refine zc_region ?_
    refine z_cmpB (r := true) want_none (by decide) rfl rfl rfl (iff_of_true rfl (by omega)) ?_
    refine zl_nil ?_
    refine zk_seq ?_
    refine zc_seq ?_
    refine zc_true rfl ?_
    refine zc_skip ?_
    refine zk_seq ?_
    refine zc_seq ?_
    refine zc_block ?_
    refine zc_seq ?_
    refine zc_region ?_
    refine z_ia want_none (by decide) rfl rfl (by omega) (by omega) ?_
    refine z_load1 (by first | exact want_none | exact want_L rfl) (by decide) rfl (cell_at hcell (by omega)) ?_
    refine zl_pureL rfl ?_
    refine zl_nil ?_
    refine zk_seq ?_
    refine zc_seq ?_
    refine zc_region ?_
    iterate 2 (refine zl_pureL rfl ?_)
    refine z_fa want_none (by decide) rfl ?_
    refine z_loadB want_none (by decide) rfl (by assumption) (by rfl) ?_
    refine zl_pureL rfl ?_
    refine zl_run (by first | exact want_none | exact want_L rfl) rfl (by decide) (r_lookup u69 u9 z3 rfl rfl h.mp) ?_
    by_cases hp : 0 < m (l.getD k eb)
    · refine z_cmpB (r := true) want_none (by decide) rfl rfl rfl (iff_of_true rfl (by omega)) ?_
      refine zl_nil ?_
      refine zk_seq ?_
      refine zc_true rfl ?_
      refine zc_seq ?_
      refine zc_region ?_
      refine zl_pureL rfl ?_
      refine zl_nil ?_
      refine zk_seq ?_
      refine zc_ret ?_
      refine zk_ret_block ?_
      iterate 2 (refine zk_ret_then ?_)
      refine zk_ret_block ?_
      refine zk_ret_then ?_
      exact zk_ret1 (.inr rfl) rfl rfl ⟨⟨true, rfl, iff_of_true rfl ⟨_, mem_at hlt, hp⟩⟩, rfl⟩
    · refine z_cmpB (r := false) want_none (by decide) rfl rfl rfl (iff_of_false Bool.false_ne_true (by omega)) ?_
      refine zl_nil ?_
      refine zk_seq ?_
      refine zc_false rfl ?_
      refine zc_skip ?_
      refine zk_norm_block ?_
      refine zk_seq ?_
      refine zc_region ?_
      refine z_add want_none (by decide) rfl rfl (by omega) (by omega) ?_
      refine zl_pureL rfl ?_
      refine zl_nil ?_
      exact zk_loop (k + 1) ⟨by omega, fun j hj => by
        by_cases hjk : j = k
        · subst hjk; exact hp
        · exact hno j (by omega)⟩ (by omega) rfl ⟨rfl, rfl, rfl, get_int rfl (by simp), trivial⟩
  · refine zc_seq ?_
    refine zc_region ?_
    refine z_cmpB (r := false) want_none (by decide) rfl rfl rfl (iff_of_false Bool.false_ne_true (by omega)) ?_
    refine zl_nil ?_
    refine zk_seq ?_
    refine zc_seq ?_
    refine zc_false rfl ?_
    refine zc_exit ?_
    iterate 2 (refine zk_exit_then ?_)
    refine zk_exit_block ?_
    refine zk_seq ?_
    refine zc_seq ?_
    refine zc_region ?_
    refine zl_pureL rfl ?_
    refine zl_nil ?_
    refine zk_seq ?_
    refine zc_ret ?_
    refine zk_ret1 (.inr rfl) rfl rfl ⟨⟨false, rfl, iff_of_false Bool.false_ne_true (fun ⟨x, hx, hp⟩ => ?_)⟩, rfl⟩
    obtain ⟨j, hj, hje⟩ := List.getElem_of_mem hx
    exact hno j (by omega) (by rw [List.getD_eq_getElem?_getD, List.getElem?_eq_getElem hj]; simp only [Option.getD_some, hje]; exact hp)
end
end Go.Proofs.Yteeibieaapiomaa.D
