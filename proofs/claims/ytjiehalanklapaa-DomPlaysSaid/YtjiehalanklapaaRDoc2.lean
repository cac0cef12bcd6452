import Derived.Test.YtjiehalanklapaaRDoc
/- The document's Doc: what is asked of it. -/
namespace Go.Proofs.Ytjiehalanklapaa.D
open Go Go.Z Go.Proofs
set_option linter.unusedVariables false
section
variable {w : World} {p : Nat} {vn vu vr : Value} {ms : List MN} {ks : List Value} {N : List ND}
theorem rIs_calls (h : IsR w p vn vu vr ms ks N) (n : Int) :
    Calls Try.prog 75 [.pointer (some ⟨p, 0, none⟩), .int .i64 n].toArray w fun e w' => e = .returned (.bool (decide (isN N n))) ∧ w' = w := by
  obtain ⟨A, c, rfl, hc⟩ := h.formN
  have hb := h.blk
  refine calls_zc (n := 16) (f := 75) (fn := Try.f75) Try.func75 rfl rfl (by simp) ?_
  refine zc_seq ?_
  refine zc_region ?_
  refine zl_pureL rfl ?_
  refine zl_nil ?_
  refine zk_seq ?_
  refine zc_seq ?_
  refine zc_region ?_
  refine zl_pureL rfl ?_
  by_cases h0 : 0 ≤ n
  · by_cases h1 : n < N.length
    · refine z_cmpB (r := true) want_none (by decide) rfl rfl rfl (iff_of_true rfl (by omega)) ?_
      iterate 4 (refine zl_pureL rfl ?_)
      refine z_fa (want_L rfl) (by decide) rfl ?_
      refine z_loadB (want_L rfl) (by decide) rfl (by assumption) (by rfl) ?_
      refine z_len (want_L rfl) (by decide) rfl ?_
      refine z_cmpB (r := true) (want_L rfl) (by decide) rfl rfl rfl (iff_of_true rfl (by omega)) ?_
      iterate 2 (refine zl_pureL rfl ?_)
      refine zl_nil ?_
      refine zk_seq ?_
      refine zc_ret ?_
      exact zk_ret1 (.inr rfl) rfl rfl ⟨by simp [isN, h0, h1], rfl⟩
    · refine z_cmpB (r := true) want_none (by decide) rfl rfl rfl (iff_of_true rfl (by omega)) ?_
      iterate 4 (refine zl_pureL rfl ?_)
      refine z_fa (want_L rfl) (by decide) rfl ?_
      refine z_loadB (want_L rfl) (by decide) rfl (by assumption) (by rfl) ?_
      refine z_len (want_L rfl) (by decide) rfl ?_
      refine z_cmpB (r := false) (want_L rfl) (by decide) rfl rfl rfl (iff_of_false Bool.false_ne_true (by omega)) ?_
      iterate 2 (refine zl_pureL rfl ?_)
      refine zl_nil ?_
      refine zk_seq ?_
      refine zc_ret ?_
      exact zk_ret1 (.inr rfl) rfl rfl ⟨by simp [isN, h0, h1], rfl⟩
  · refine z_cmpB (r := false) want_none (by decide) rfl rfl rfl (iff_of_false Bool.false_ne_true (by omega)) ?_
    iterate 4 (refine zl_pureL rfl ?_)
    iterate 4 (refine zl_skip rfl ?_)
    iterate 2 (refine zl_pureL rfl ?_)
    refine zl_nil ?_
    refine zk_seq ?_
    refine zc_ret ?_
    exact zk_ret1 (.inr rfl) rfl rfl ⟨by simp [isN, h0], rfl⟩
theorem rElem_calls (h : IsR w p vn vu vr ms ks N) (n : Int) :
    Calls Try.prog 77 [.pointer (some ⟨p, 0, none⟩), .int .i64 n].toArray w fun e w' => e = .returned (.bool (decide (isN N n ∧ (ndOf N n).kind = 1))) ∧ w' = w := by
  refine calls_zc (n := 19) (f := 77) (fn := Try.f77) Try.func77 rfl rfl (by simp) ?_
  refine zc_seq ?_
  refine zc_region ?_
  refine zl_pureL rfl ?_
  refine zl_nil ?_
  refine zk_seq ?_
  refine zc_seq ?_
  refine zc_region ?_
  iterate 2 (refine zl_pureL rfl ?_)
  refine zl_call (by first | exact want_none | exact want_L rfl) rfl (by decide) rfl (rIs_calls h n) ?_
  rintro _ u ⟨rfl, hu⟩
  obtain rfl := hu.symm
  refine ⟨_, rfl, ?_⟩
  by_cases h0 : isN N n
  · rw [decide_eq_true h0]
    obtain ⟨i, rfl⟩ := Int.eq_ofNat_of_zero_le h0.1
    have hi : i < N.length := by have := h0.2; omega
    obtain ⟨b, o, c, A, hv, hn, _⟩ := h.nd i hi
    subst hv
    have hb := h.blk
    have hc0 := hn.c0
    iterate 3 (refine zl_pureL rfl ?_)
    refine z_fa (want_L rfl) (by decide) rfl ?_
    refine z_loadB (want_L rfl) (by decide) rfl (by assumption) (by rfl) ?_
    refine zl_pureL rfl ?_
    refine z_ia (want_L rfl) (by decide) rfl rfl (by omega) (by omega) ?_
    refine z_fa (want_L rfl) (by decide) rfl ?_
    refine z_load1 (want_L rfl) (by decide) rfl (by assumption) ?_
    refine z_cmpB (r := decide ((N.getD i n0).kind = 1)) (by first | exact want_none | exact want_L rfl) (by decide) rfl rfl rfl (by simp [hdOf]) ?_
    by_cases hk : (N.getD i n0).kind = 1
    · rw [decide_eq_true hk]
      iterate 2 (refine zl_pureL rfl ?_)
      refine zl_nil ?_
      refine zk_seq ?_
      refine zc_ret ?_
      exact zk_ret1 (.inr rfl) rfl rfl ⟨by rw [decide_eq_true (show isN N i ∧ (ndOf N i).kind = 1 from ⟨h0, hk⟩)], rfl⟩
    · rw [decide_eq_false hk]
      iterate 2 (refine zl_pureL rfl ?_)
      refine zl_nil ?_
      refine zk_seq ?_
      refine zc_ret ?_
      exact zk_ret1 (.inr rfl) rfl rfl ⟨by rw [decide_eq_false (show ¬ (isN N i ∧ (ndOf N i).kind = 1) from fun hh => hk hh.2)], rfl⟩
  · rw [decide_eq_false h0]
    iterate 3 (refine zl_pureL rfl ?_)
    iterate 2 (refine zl_skip rfl ?_)
    refine zl_pureL rfl ?_
    iterate 4 (refine zl_skip rfl ?_)
    iterate 2 (refine zl_pureL rfl ?_)
    refine zl_nil ?_
    refine zk_seq ?_
    refine zc_ret ?_
    exact zk_ret1 (.inr rfl) rfl rfl ⟨by rw [decide_eq_false (show ¬ (isN N n ∧ (ndOf N n).kind = 1) from fun hh => h0 hh.1)], rfl⟩
theorem rUp_calls (h : IsR w p vn vu vr ms ks N) (n : Int) :
    Calls Try.prog 65 [.pointer (some ⟨p, 0, none⟩), .int .i64 n].toArray w fun e w' => e = .returned (.int .i64 (upOf N n)) ∧ w' = w := by
  refine calls_zc (n := 16) (f := 65) (fn := Try.f65) Try.func65 rfl rfl (by simp) ?_
  refine zc_seq ?_
  refine zc_region ?_
  refine zl_pureL rfl ?_
  refine zl_nil ?_
  refine zk_seq ?_
  iterate 2 (refine zc_seq ?_)
  refine zc_region ?_
  iterate 2 (refine zl_pureL rfl ?_)
  refine zl_call (by first | exact want_none | exact want_L rfl) rfl (by decide) rfl (rIs_calls h n) ?_
  rintro _ u ⟨rfl, hu⟩
  obtain rfl := hu.symm
  refine ⟨_, rfl, ?_⟩
  unfold upOf
  by_cases h0 : isN N n
  · rw [decide_eq_true h0, if_pos h0]
    obtain ⟨i, rfl⟩ := Int.eq_ofNat_of_zero_le h0.1
    have hi : i < N.length := by have := h0.2; omega
    obtain ⟨b, o, c, hv, hp⟩ := h.up i hi
    subst hv
    have hb := h.blk
    refine zl_pureL rfl ?_
    refine zl_nil ?_
    refine zk_seq ?_
    refine zc_false rfl ?_
    refine zc_skip ?_
    refine zk_seq ?_
    refine zc_seq ?_
    refine zc_region ?_
    iterate 2 (refine zl_pureL rfl ?_)
    refine z_fa want_none (by decide) rfl ?_
    refine z_loadB want_none (by decide) rfl (by assumption) (by rfl) ?_
    refine zl_pureL rfl ?_
    refine z_ia want_none (by decide) rfl rfl (by omega) (by omega) ?_
    refine z_load1 (by first | exact want_none | exact want_L rfl) (by decide) rfl (cell_at hp (by omega)) ?_
    refine zl_pureL rfl ?_
    refine zl_nil ?_
    refine zk_seq ?_
    refine zc_ret ?_
    exact zk_ret1 (.inr rfl) rfl rfl ⟨rfl, rfl⟩
  · rw [decide_eq_false h0, if_neg h0]
    refine zl_pureL rfl ?_
    refine zl_nil ?_
    refine zk_seq ?_
    refine zc_true rfl ?_
    refine zc_seq ?_
    refine zc_region ?_
    refine zl_pureL rfl ?_
    refine zl_nil ?_
    refine zk_seq ?_
    refine zc_ret ?_
    refine zk_ret_then ?_
    exact zk_ret1 (.inr rfl) rfl rfl ⟨rfl, rfl⟩
theorem rKids_calls (h : IsR w p vn vu vr ms ks N) (n : Int) :
    Calls Try.prog 64 [.pointer (some ⟨p, 0, none⟩), .int .i64 n].toArray w fun e w' => ∃ v, e = .returned v ∧ RdS w' 3 1 v (if isN N n then (ndOf N n).kids else []).length (intC (if isN N n then (ndOf N n).kids else [])) ∧ w' = w := by
  refine calls_zc (n := 16) (f := 64) (fn := Try.f64) Try.func64 rfl rfl (by simp) ?_
  refine zc_seq ?_
  refine zc_region ?_
  refine zl_pureL rfl ?_
  refine zl_nil ?_
  refine zk_seq ?_
  iterate 2 (refine zc_seq ?_)
  refine zc_region ?_
  iterate 2 (refine zl_pureL rfl ?_)
  refine zl_call (by first | exact want_none | exact want_L rfl) rfl (by decide) rfl (rIs_calls h n) ?_
  rintro _ u ⟨rfl, hu⟩
  obtain rfl := hu.symm
  refine ⟨_, rfl, ?_⟩
  by_cases h0 : isN N n
  · rw [decide_eq_true h0, if_pos h0]
    obtain ⟨i, rfl⟩ := Int.eq_ofNat_of_zero_le h0.1
    have hi : i < N.length := by have := h0.2; omega
    obtain ⟨b, o, c, A, c', hv, hp, hk, hc'⟩ := h.kd i hi
    have hK := (h.kid i hi).1.rd
    rw [hk] at hK
    subst hv
    have hb := h.blk
    refine zl_pureL rfl ?_
    refine zl_nil ?_
    refine zk_seq ?_
    refine zc_false rfl ?_
    refine zc_skip ?_
    refine zk_seq ?_
    refine zc_seq ?_
    refine zc_region ?_
    iterate 2 (refine zl_pureL rfl ?_)
    refine z_fa want_none (by decide) rfl ?_
    refine z_loadB want_none (by decide) rfl (by assumption) (by rfl) ?_
    refine zl_pureL rfl ?_
    refine z_ia want_none (by decide) rfl rfl (by omega) (by omega) ?_
    refine z_load1 (by first | exact want_none | exact want_L rfl) (by decide) rfl (cell_at hp (by omega)) ?_
    refine zl_pureL rfl ?_
    refine zl_nil ?_
    refine zk_seq ?_
    refine zc_ret ?_
    exact zk_ret1 (.inr rfl) rfl rfl ⟨_, rfl, hK, rfl⟩
  · rw [decide_eq_false h0, if_neg h0]
    refine zl_pureL rfl ?_
    refine zl_nil ?_
    refine zk_seq ?_
    refine zc_true rfl ?_
    refine zc_seq ?_
    refine zc_region ?_
    refine zl_pureL rfl ?_
    refine zl_nil ?_
    refine zk_seq ?_
    refine zc_ret ?_
    refine zk_ret_then ?_
    exact zk_ret1 (.inr rfl) rfl rfl ⟨_, rfl, RdS.nil, rfl⟩
theorem rBelow_calls (h : IsR w p vn vu vr ms ks N) (hW : WF N) (n top : Nat) (hn : n < N.length) (ht : top < N.length) :
    Calls Try.prog 78 [.pointer (some ⟨p, 0, none⟩), .int .i64 n, .int .i64 top].toArray w fun e w' => ∃ q, e = .returned (.bool q) ∧ (q = true ↔ Anc N n top) ∧ w' = w := by
  have hb := h.blk
  obtain ⟨A, c, hvu, _⟩ := h.formU
  obtain ⟨d, hd⟩ := hW.rank
  refine calls_zc (n := 19) (f := 78) (fn := Try.f78) Try.func78 rfl rfl (by simp) ?_
  refine zc_seq ?_
  refine zc_region ?_
  refine zl_pureL rfl ?_
  refine zl_nil ?_
  refine zk_seq ?_
  refine zc_seq ?_
  refine zc_block ?_
  refine zc_loop (ι := Int) (fun k => [(0, .pointer (some ⟨p, 0, none⟩)), (1, .int .i64 k), (2, .int .i64 top)]) (fun _ => w) (fun k => (k = -1 ∧ ¬ Anc N n top) ∨ ∃ m : Nat, k = m ∧ m < N.length ∧ (Anc N m top ↔ Anc N n top)) (fun k => if k < 0 then 0 else d k.toNat + 1) (n : Int) (.inr ⟨n, rfl, hn, Iff.rfl⟩) ?_ ?_ ?_
  · rfl
  · exact ⟨rfl, rfl, rfl, trivial⟩
  rintro k hk
  rcases hk with ⟨rfl, hna⟩ | ⟨m, rfl, hm, hiff⟩
  · iterate 2 (refine zc_seq ?_)
    refine zc_region ?_
    refine zl_pureL rfl ?_
    refine z_cmpB (r := false) want_none (by decide) rfl rfl rfl (iff_of_false Bool.false_ne_true (by omega)) ?_
    refine zl_nil ?_
    refine zk_seq ?_
    refine zc_false rfl ?_
    refine zc_exit ?_
    iterate 2 (refine zk_exit_then ?_)
    refine zk_exit_block ?_
    refine zk_seq ?_
    refine zc_seq ?_
    refine zc_region ?_
    refine zl_pureL rfl ?_
    refine zl_nil ?_
    refine zk_seq ?_
    refine zc_ret ?_
    exact zk_ret1 (.inr rfl) rfl rfl ⟨false, rfl, no_ hna, rfl⟩
  · by_cases he : m = top
    · iterate 2 (refine zc_seq ?_)
      refine zc_region ?_
      refine zl_pureL rfl ?_
      refine z_cmpB (r := true) want_none (by decide) rfl rfl rfl (iff_of_true rfl (by omega)) ?_
      refine zl_nil ?_
      refine zk_seq ?_
      refine zc_true rfl ?_
      refine zc_skip ?_
      refine zk_seq ?_
      refine zc_block ?_
      iterate 2 (refine zc_seq ?_)
      refine zc_region ?_
      iterate 2 (refine zl_pureL rfl ?_)
      refine z_cmpB (r := true) want_none (by decide) rfl rfl rfl (iff_of_true rfl (by omega)) ?_
      refine zl_nil ?_
      refine zk_seq ?_
      refine zc_true rfl ?_
      refine zc_seq ?_
      refine zc_region ?_
      refine zl_pureL rfl ?_
      refine zl_nil ?_
      refine zk_seq ?_
      refine zc_ret ?_
      refine zk_ret_then ?_
      refine zk_ret_block ?_
      refine zk_ret_then ?_
      refine zk_ret_block ?_
      refine zk_ret_then ?_
      exact zk_ret1 (.inr rfl) rfl rfl ⟨true, rfl, iff_of_true rfl (hiff.1 (he ▸ Anc.refl m)), rfl⟩
    · obtain ⟨b', o', c', hv', hp'⟩ := h.up m hm
      rw [hv'] at hb
      obtain ⟨hu1, hu2⟩ := hW.up m hm
      iterate 2 (refine zc_seq ?_)
      refine zc_region ?_
      refine zl_pureL rfl ?_
      refine z_cmpB (r := true) want_none (by decide) rfl rfl rfl (iff_of_true rfl (by omega)) ?_
      refine zl_nil ?_
      refine zk_seq ?_
      refine zc_true rfl ?_
      refine zc_skip ?_
      refine zk_seq ?_
      refine zc_block ?_
      iterate 2 (refine zc_seq ?_)
      refine zc_region ?_
      iterate 2 (refine zl_pureL rfl ?_)
      refine z_cmpB (r := false) want_none (by decide) rfl rfl rfl (iff_of_false Bool.false_ne_true (by omega)) ?_
      refine zl_nil ?_
      refine zk_seq ?_
      refine zc_false rfl ?_
      refine zc_skip ?_
      refine zk_seq ?_
      refine zc_region ?_
      iterate 2 (refine zl_pureL rfl ?_)
      refine z_fa want_none (by decide) rfl ?_
      refine z_loadB want_none (by decide) rfl (by assumption) (by rfl) ?_
      refine zl_pureL rfl ?_
      refine z_ia want_none (by decide) rfl rfl (by omega) (by omega) ?_
      refine z_load1 (by first | exact want_none | exact want_L rfl) (by decide) rfl (cell_at hp' (by omega)) ?_
      refine zl_pureL rfl ?_
      refine zl_nil ?_
      refine zk_norm_block ?_
      by_cases hneg : (N.getD m n0).up = -1
      · refine zk_loop _ (.inl ⟨hneg, fun ha => ?_⟩) (by rw [hneg, if_pos (by decide), if_neg (by omega)]; omega) rfl ⟨rfl, rfl, rfl, trivial⟩
        have := hiff.2 ha
        cases this with
        | refl => exact he rfl
        | step _ m' _ hu' _ => rw [hneg] at hu'; omega
      · obtain ⟨m', hm'⟩ := Int.eq_ofNat_of_zero_le (show 0 ≤ (N.getD m n0).up by omega)
        have hdm := hd m hm m' hm'
        refine zk_loop _ (.inr ⟨m', hm', by omega, ?_⟩) (by rw [hm']; rw [if_neg (by omega), if_neg (by omega)]; simp only [Int.toNat_natCast]; omega) rfl ⟨rfl, rfl, rfl, trivial⟩
        rw [← hiff]
        refine ⟨fun ha => Anc.step m m' top hm' ha, fun ha => ?_⟩
        cases ha with
        | refl => exact absurd rfl he
        | step _ m'' _ hu' ha' =>
          have : m'' = m' := by rw [hm'] at hu'; omega
          subst this; exact ha'
/-- the place of a kid, from the begin on -/
def plI (r : Option Nat) : Int := match r with | some i => (i : Int) | none => -1
theorem rPlace_calls (h : IsR w p vn vu vr ms ks N) (hW : WF N) (up : Nat) (hup : up < N.length) (ahead : Int) (hkl : (N.getD up n0).kids.length ≤ 100000) :
    Calls Try.prog 76 [.pointer (some ⟨p, 0, none⟩), .int .i64 up, .int .i64 ahead].toArray w fun e w' => e = .returned (.int .i64 (plI (placeN (N.getD up n0).kids ahead))) ∧ w' = w := by
  obtain ⟨b, o, c, A, c', hv, hp, hk, hc'⟩ := h.kd up hup
  have hK := (h.kid up hup).1.rd
  have hb := h.blk
  rw [hv] at hb
  rw [hk] at hK
  refine calls_zc (n := 43) (f := 76) (fn := Try.f76) Try.func76 rfl rfl (by simp) ?_
  by_cases h1 : ahead = -1
  · subst h1
    refine zc_seq ?_
    refine zc_region ?_
    refine zl_pureL rfl ?_
    refine zl_nil ?_
    refine zk_seq ?_
    iterate 2 (refine zc_seq ?_)
    refine zc_region ?_
    refine zl_pureL rfl ?_
    refine z_cmpB (r := true) want_none (by decide) rfl rfl rfl (iff_of_true rfl (by omega)) ?_
    refine zl_nil ?_
    refine zk_seq ?_
    refine zc_true rfl ?_
    refine zc_seq ?_
    refine zc_region ?_
    iterate 2 (refine zl_pureL rfl ?_)
    refine z_fa want_none (by decide) rfl ?_
    refine z_loadB want_none (by decide) rfl (by assumption) (by rfl) ?_
    refine zl_pureL rfl ?_
    refine z_ia want_none (by decide) rfl rfl (by omega) (by omega) ?_
    refine z_load1 (by first | exact want_none | exact want_L rfl) (by decide) rfl (cell_at hp (by omega)) ?_
    refine z_len want_none (by decide) rfl ?_
    refine zl_pureL rfl ?_
    refine zl_nil ?_
    refine zk_seq ?_
    refine zc_ret ?_
    refine zk_ret_then ?_
    exact zk_ret1 (.inr rfl) rfl rfl ⟨by unfold placeN; rw [if_pos rfl]; rfl, rfl⟩
  · refine zc_seq ?_
    refine zc_region ?_
    refine zl_pureL rfl ?_
    refine zl_nil ?_
    refine zk_seq ?_
    iterate 2 (refine zc_seq ?_)
    refine zc_region ?_
    refine zl_pureL rfl ?_
    refine z_cmpB (r := false) want_none (by decide) rfl rfl rfl (iff_of_false Bool.false_ne_true (by omega)) ?_
    refine zl_nil ?_
    refine zk_seq ?_
    refine zc_false rfl ?_
    refine zc_skip ?_
    refine zk_seq ?_
    iterate 2 (refine zc_seq ?_)
    refine zc_region ?_
    refine zl_pureL rfl ?_
    refine zl_nil ?_
    refine zk_seq ?_
    refine zc_block ?_
    refine zc_loop (ι := Nat) (fun k => [(0, .pointer (some ⟨p, 0, none⟩)), (1, .int .i64 up), (2, .int .i64 ahead), (7, .int .i64 k)]) (fun _ => w) (fun k => k ≤ (N.getD up n0).kids.length ∧ ∀ j, j < k → ((N.getD up n0).kids.getD j 0 : Int) ≠ ahead) (fun k => (N.getD up n0).kids.length - k) 0 ⟨Nat.zero_le _, fun j hj => absurd hj (Nat.not_lt_zero _)⟩ ?_ ?_ ?_
    · rfl
    · exact ⟨rfl, rfl, rfl, rfl, trivial⟩
    rintro k ⟨hkk, hno⟩
    by_cases hlt : k < (N.getD up n0).kids.length
    · obtain ⟨bk, ok, ck, hvk, _, hck⟩ := RdS.some hK (by omega)
      cases hvk
      have hcell := hck k _ (intC_get _ k hlt)
      iterate 2 (refine zc_seq ?_)
      refine zc_region ?_
      iterate 3 (refine zl_pureL rfl ?_)
      refine z_fa want_none (by decide) rfl ?_
      refine z_loadB want_none (by decide) rfl (by assumption) (by rfl) ?_
      refine zl_pureL rfl ?_
      refine z_ia want_none (by decide) rfl rfl (by omega) (by omega) ?_
      refine z_load1 (by first | exact want_none | exact want_L rfl) (by decide) rfl (cell_at hp (by omega)) ?_
      refine z_len want_none (by decide) rfl ?_
      refine z_cmpB (r := true) want_none (by decide) rfl rfl rfl (iff_of_true rfl (by omega)) ?_
      refine zl_nil ?_
      refine zk_seq ?_
      refine zc_true rfl ?_
      refine zc_skip ?_
      refine zk_seq ?_
      refine zc_seq ?_
      refine zc_block ?_
      refine zc_seq ?_
      refine zc_region ?_
      iterate 2 (refine zl_pureL rfl ?_)
      refine z_fa want_none (by decide) rfl ?_
      refine z_loadB want_none (by decide) rfl (by assumption) (by rfl) ?_
      refine zl_pureL rfl ?_
      refine z_ia want_none (by decide) rfl rfl (by omega) (by omega) ?_
      refine z_load1 (by first | exact want_none | exact want_L rfl) (by decide) rfl (cell_at hp (by omega)) ?_
      refine zl_pureL rfl ?_
      refine z_ia want_none (by decide) rfl rfl (by omega) (by omega) ?_
      refine z_load1 (by first | exact want_none | exact want_L rfl) (by decide) rfl (cell_at hcell (by omega)) ?_
      by_cases he : ((N.getD up n0).kids.getD k 0 : Int) = ahead
      · refine zl_pureL rfl ?_
        refine z_cmpB (r := true) want_none (by decide) rfl rfl rfl (iff_of_true rfl (by omega)) ?_
        refine zl_nil ?_
        refine zk_seq ?_
        refine zc_true rfl ?_
        refine zc_seq ?_
        refine zc_region ?_
        iterate 2 (refine zl_pureL rfl ?_)
        refine zl_nil ?_
        refine zk_seq ?_
        refine zc_ret ?_
        refine zk_ret_block ?_
        iterate 2 (refine zk_ret_then ?_)
        refine zk_ret_block ?_
        refine zk_ret_then ?_
        refine zk_ret1 (.inr rfl) rfl rfl ⟨?_, rfl⟩
        unfold placeN
        rw [if_neg h1, if_pos (by omega)]
        have := findK_eq (hW.nodup up hup) hlt (a := ahead.toNat) (by omega) _ hlt (Nat.le_refl _)
        rw [this]; rfl
      · refine zl_pureL rfl ?_
        refine z_cmpB (r := false) want_none (by decide) rfl rfl rfl (iff_of_false Bool.false_ne_true (by omega)) ?_
        refine zl_nil ?_
        refine zk_seq ?_
        refine zc_false rfl ?_
        refine zc_skip ?_
        refine zk_norm_block ?_
        refine zk_seq ?_
        refine zc_region ?_
        refine zl_pureL rfl ?_
        refine z_add want_none (by decide) rfl rfl (by omega) (by omega) ?_
        refine zl_pureL rfl ?_
        refine zl_nil ?_
        exact zk_loop (k + 1) ⟨by omega, fun j hj => by
          by_cases hjk : j = k
          · subst hjk; exact he
          · exact hno j (by omega)⟩ (by omega) rfl ⟨rfl, rfl, rfl, get_int rfl (by simp), trivial⟩
    · iterate 2 (refine zc_seq ?_)
      refine zc_region ?_
      iterate 3 (refine zl_pureL rfl ?_)
      refine z_fa want_none (by decide) rfl ?_
      refine z_loadB want_none (by decide) rfl (by assumption) (by rfl) ?_
      refine zl_pureL rfl ?_
      refine z_ia want_none (by decide) rfl rfl (by omega) (by omega) ?_
      refine z_load1 (by first | exact want_none | exact want_L rfl) (by decide) rfl (cell_at hp (by omega)) ?_
      refine z_len want_none (by decide) rfl ?_
      refine z_cmpB (r := false) want_none (by decide) rfl rfl rfl (iff_of_false Bool.false_ne_true (by omega)) ?_
      refine zl_nil ?_
      refine zk_seq ?_
      refine zc_false rfl ?_
      refine zc_exit ?_
      iterate 2 (refine zk_exit_then ?_)
      refine zk_exit_block ?_
      refine zk_seq ?_
      refine zc_seq ?_
      refine zc_region ?_
      refine zl_pureL rfl ?_
      refine zl_nil ?_
      refine zk_seq ?_
      refine zc_ret ?_
      refine zk_ret1 (.inr rfl) rfl rfl ⟨?_, rfl⟩
      unfold placeN
      rw [if_neg h1]
      split
      · rename_i h0
        rw [findK_none (fun hm => ?_) _ (Nat.le_refl _)]
        · rfl
        · obtain ⟨j, hj, hje⟩ := List.getElem_of_mem hm
          refine hno j (by omega) ?_
          rw [List.getD_eq_getElem?_getD, List.getElem?_eq_getElem hj]
          simp only [Option.getD_some, hje]; omega
      · rfl
theorem rNode_calls (h : IsR w p vn vu vr ms ks N) (n : Int) :
    Calls Try.prog 66 [.pointer (some ⟨p, 0, none⟩), .int .i64 n].toArray w fun e w' => ∃ va, e = .returned (.agg #[.int .i64 (nodeOf N n).kind, .int .i64 (nodeOf N n).space, .string (nodeOf N n).name, va, .string (bs (nodeOf N n).text), .int .i64 0, .slice none 0 0]) ∧ AttrS w' va (nodeOf N n).attrs ∧ Chg w w' No := by
  refine calls_zc (n := 17) (f := 66) (fn := Try.f66) Try.func66 rfl rfl (by simp) ?_
  refine zc_seq ?_
  refine zc_region ?_
  refine z_alloc (by first | exact want_none | exact want_L rfl) (by decide) (fun w1 b1 hN1 => ?_)
  have hb1 : Blk w1 b1 48 [.int .i64 0, .int .i64 0, .string ⟨#[]⟩, .slice none 0 0, .string ⟨#[]⟩, .int .i64 0, .slice none 0 0] := hN1.blk
  have h1 := h.no hN1.chg
  have hge := hN1.ge (Chg.refl _ No)
  refine zl_nil ?_
  refine zk_seq ?_
  iterate 2 (refine zc_seq ?_)
  refine zc_region ?_
  iterate 2 (refine zl_pureL rfl ?_)
  refine zl_call (by first | exact want_none | exact want_L rfl) rfl (by decide) rfl (rIs_calls h1 n) ?_
  rintro _ u ⟨rfl, hu⟩
  obtain rfl := hu.symm
  refine ⟨_, rfl, ?_⟩
  by_cases h0 : isN N n
  · rw [decide_eq_true h0]
    have hx : nodeOf N n = ndOf N n := if_pos h0
    rw [hx]
    obtain ⟨i, rfl⟩ := Int.eq_ofNat_of_zero_le h0.1
    have hi : i < N.length := by have := h0.2; omega
    obtain ⟨b, o, c, A, hv, hn, hA⟩ := h1.nd i hi
    obtain ⟨A4, c4, rfl, _⟩ := hA.form
    subst hv
    have hb := h1.blk
    refine zl_pureL rfl ?_
    refine zl_nil ?_
    refine zk_seq ?_
    refine zc_false rfl ?_
    refine zc_skip ?_
    refine zk_seq ?_
    refine zc_seq ?_
    refine zc_region ?_
    iterate 2 (refine zl_pureL rfl ?_)
    refine z_fa want_none (by decide) rfl ?_
    refine z_loadB want_none (by decide) rfl (by assumption) (by rfl) ?_
    refine zl_pureL rfl ?_
    refine z_ia want_none (by decide) rfl rfl (by omega) (by omega) ?_
    refine z_loadA (by rfl) (by first | exact want_none | exact want_L rfl) (by decide) rfl (hn.agg (by omega)) ?_
    skip
    refine z_store (by first | exact want_none | exact want_L rfl) rfl rfl rfl (by assumption) (by first | exact Nat.le_refl _ | simp [Value.cells]) (by simp [Value.cells, Value.oneCell']) (fun w2 hU2 => ?_)
    have hb2 : Blk w2 b1 48 [.int .i64 (N.getD i n0).kind, .int .i64 (N.getD i n0).space, .string (N.getD i n0).name, .slice A4 (N.getD i n0).attrs.length c4, .string (bs (N.getD i n0).text), .int .i64 0, .slice none 0 0] := hU2.blk
    refine zl_nil ?_
    refine zk_seq ?_
    refine zc_ret ?_
    exact zk_retC (.inr rfl) rfl rfl hb2 rfl ⟨_, rfl, RdS.upd hA hU2 (by decide), hN1.chg.upd hU2 hge⟩
  · rw [decide_eq_false h0]
    have hx : nodeOf N n = n0 := if_neg h0
    rw [hx]
    refine zl_pureL rfl ?_
    refine zl_nil ?_
    refine zk_seq ?_
    refine zc_true rfl ?_
    refine zc_seq ?_
    refine zc_region ?_
    refine z_buildE #[.int .i64 0, .int .i64 0, .string ⟨#[]⟩, .slice none 0 0, .string ⟨#[]⟩, .int .i64 0, .slice none 0 0] (by first | exact want_none | exact want_L rfl) (by decide) rfl (by kernel_rfl) ?_
    refine z_store (by first | exact want_none | exact want_L rfl) rfl rfl rfl (by assumption) (by first | exact Nat.le_refl _ | simp [Value.cells]) (by simp [Value.cells, Value.oneCell']) (fun w2 hU2 => ?_)
    have hb2 : Blk w2 b1 48 [.int .i64 0, .int .i64 0, .string ⟨#[]⟩, .slice none 0 0, .string ⟨#[]⟩, .int .i64 0, .slice none 0 0] := hU2.blk
    refine zl_nil ?_
    refine zk_seq ?_
    refine zc_ret ?_
    refine zk_ret_then ?_
    exact zk_retC (.inr rfl) rfl rfl hb2 rfl ⟨.slice none 0 0, rfl, AttrS.nil _, hN1.chg.upd hU2 hge⟩
end
end Go.Proofs.Ytjiehalanklapaa.D
