import Derived.Test.YtaagolhokejflaaMPut
import Derived.Test.YtaagolhokejflaaMPush
/- Put, Set, Drop where there is no such place. -/
namespace Go.Proofs.Ytaagolhokejflaa.M
open Go Go.Z Go.Proofs
set_option linter.unusedVariables false
theorem put_out {w : World} {g : Nat} {v av : Value} {L : List Mark} {nd : Int} {nm : ByteArray} {l : List At} (h : IsM w 62 g v L) (hl : L.length ≤ 100000) (ha : AttrS w av l) (i : Int) (hi : i < 0 ∨ (L.length : Int) < i) :
    Calls Try.prog 27 [Value.pointer (some ⟨g, 0, none⟩), .int .i64 i, .agg #[.int .i64 nd, .string nm, av]].toArray w fun e w' => e = .returned (.bool false) ∧ Chg w w' No := by
  obtain ⟨A2, c2, hv2, hc2⟩ := ha.form
  subst hv2
  obtain ⟨A, c, rfl, hc⟩ := h.form
  refine calls_zc (n := 50) (f := 27) (fn := Try.f27) Try.func27 rfl rfl (by simp) ?_
  refine zc_seq ?_
  refine zc_region ?_
  refine z_box (by first | exact want_none | exact want_L rfl) (by decide) rfl (fun w1 b1 hN1 => ?_)
  have hg1 := (h.no hN1.chg).1
  refine zl_pureL rfl ?_
  refine zl_nil ?_
  refine zk_seq ?_
  iterate 2 (refine zc_seq ?_)
  refine zc_region ?_
  refine zl_pureL rfl ?_
  by_cases h0 : i < 0
  · refine z_cmpB (r := true) want_none (by decide) rfl rfl rfl (iff_of_true rfl (by omega)) ?_
    iterate 4 (refine zl_pureL rfl ?_)
    iterate 4 (refine zl_skip rfl ?_)
    refine zl_pureL rfl ?_
    refine zl_nil ?_
    refine zk_seq ?_
    refine zc_true rfl ?_
    refine zc_seq ?_
    refine zc_region ?_
    refine zl_pureL rfl ?_
    refine zl_nil ?_
    refine zk_seq ?_
    refine zc_ret ?_
    refine zk_ret_then ?_
    exact zk_ret1 (.inr rfl) rfl rfl ⟨rfl, hN1.chg⟩
  · refine z_cmpB (r := false) want_none (by decide) rfl rfl rfl (iff_of_false Bool.false_ne_true (by omega)) ?_
    iterate 4 (refine zl_pureL rfl ?_)
    refine z_fa (want_L rfl) (by decide) rfl ?_
    refine z_loadB (want_L rfl) (by decide) rfl (by assumption) (by rfl) ?_
    refine z_len (want_L rfl) (by decide) rfl ?_
    refine z_cmpB (r := true) (want_L rfl) (by decide) rfl rfl rfl (iff_of_true rfl (by omega)) ?_
    refine zl_pureL rfl ?_
    refine zl_nil ?_
    refine zk_seq ?_
    refine zc_true rfl ?_
    refine zc_seq ?_
    refine zc_region ?_
    refine zl_pureL rfl ?_
    refine zl_nil ?_
    refine zk_seq ?_
    refine zc_ret ?_
    refine zk_ret_then ?_
    exact zk_ret1 (.inr rfl) rfl rfl ⟨rfl, hN1.chg⟩
theorem set_out {w : World} {g : Nat} {v av : Value} {L : List Mark} {nd : Int} {nm : ByteArray} {l : List At} (h : IsM w 62 g v L) (hl : L.length ≤ 100000) (ha : AttrS w av l) (i : Int) (hi : i < 0 ∨ (L.length : Int) ≤ i) :
    Calls Try.prog 29 [Value.pointer (some ⟨g, 0, none⟩), .int .i64 i, .agg #[.int .i64 nd, .string nm, av]].toArray w fun e w' => e = .returned (.bool false) ∧ Chg w w' No := by
  obtain ⟨A2, c2, hv2, hc2⟩ := ha.form
  subst hv2
  obtain ⟨A, c, rfl, hc⟩ := h.form
  refine calls_zc (n := 26) (f := 29) (fn := Try.f29) Try.func29 rfl rfl (by simp) ?_
  refine zc_seq ?_
  refine zc_region ?_
  refine z_box (by first | exact want_none | exact want_L rfl) (by decide) rfl (fun w1 b1 hN1 => ?_)
  have hg1 := (h.no hN1.chg).1
  refine zl_pureL rfl ?_
  refine zl_nil ?_
  refine zk_seq ?_
  iterate 2 (refine zc_seq ?_)
  refine zc_region ?_
  refine zl_pureL rfl ?_
  by_cases h0 : i < 0
  · refine z_cmpB (r := true) want_none (by decide) rfl rfl rfl (iff_of_true rfl (by omega)) ?_
    iterate 4 (refine zl_pureL rfl ?_)
    iterate 4 (refine zl_skip rfl ?_)
    refine zl_pureL rfl ?_
    refine zl_nil ?_
    refine zk_seq ?_
    refine zc_true rfl ?_
    refine zc_seq ?_
    refine zc_region ?_
    refine zl_pureL rfl ?_
    refine zl_nil ?_
    refine zk_seq ?_
    refine zc_ret ?_
    refine zk_ret_then ?_
    exact zk_ret1 (.inr rfl) rfl rfl ⟨rfl, hN1.chg⟩
  · refine z_cmpB (r := false) want_none (by decide) rfl rfl rfl (iff_of_false Bool.false_ne_true (by omega)) ?_
    iterate 4 (refine zl_pureL rfl ?_)
    refine z_fa (want_L rfl) (by decide) rfl ?_
    refine z_loadB (want_L rfl) (by decide) rfl (by assumption) (by rfl) ?_
    refine z_len (want_L rfl) (by decide) rfl ?_
    refine z_cmpB (r := true) (want_L rfl) (by decide) rfl rfl rfl (iff_of_true rfl (by omega)) ?_
    refine zl_pureL rfl ?_
    refine zl_nil ?_
    refine zk_seq ?_
    refine zc_true rfl ?_
    refine zc_seq ?_
    refine zc_region ?_
    refine zl_pureL rfl ?_
    refine zl_nil ?_
    refine zk_seq ?_
    refine zc_ret ?_
    refine zk_ret_then ?_
    exact zk_ret1 (.inr rfl) rfl rfl ⟨rfl, hN1.chg⟩
theorem drop_out {w : World} {g : Nat} {v : Value} {L : List Mark} (h : IsM w 62 g v L) (hl : L.length ≤ 100000) (i : Int) (hi : i < 0 ∨ (L.length : Int) ≤ i) :
    Calls Try.prog 28 [Value.pointer (some ⟨g, 0, none⟩), .int .i64 i].toArray w fun e w' => e = .returned (.bool false) ∧ Chg w w' No := by
  obtain ⟨A, c, rfl, hc⟩ := h.form
  have hg := h.1
  refine calls_zc (n := 44) (f := 28) (fn := Try.f28) Try.func28 rfl rfl (by simp) ?_
  refine zc_seq ?_
  refine zc_region ?_
  refine zl_pureL rfl ?_
  refine zl_nil ?_
  refine zk_seq ?_
  iterate 2 (refine zc_seq ?_)
  refine zc_region ?_
  refine zl_pureL rfl ?_
  by_cases h0 : i < 0
  · refine z_cmpB (r := true) want_none (by decide) rfl rfl rfl (iff_of_true rfl (by omega)) ?_
    iterate 4 (refine zl_pureL rfl ?_)
    iterate 4 (refine zl_skip rfl ?_)
    refine zl_pureL rfl ?_
    refine zl_nil ?_
    refine zk_seq ?_
    refine zc_true rfl ?_
    refine zc_seq ?_
    refine zc_region ?_
    refine zl_pureL rfl ?_
    refine zl_nil ?_
    refine zk_seq ?_
    refine zc_ret ?_
    refine zk_ret_then ?_
    exact zk_ret1 (.inr rfl) rfl rfl ⟨rfl, Chg.refl _ _⟩
  · refine z_cmpB (r := false) want_none (by decide) rfl rfl rfl (iff_of_false Bool.false_ne_true (by omega)) ?_
    iterate 4 (refine zl_pureL rfl ?_)
    refine z_fa (want_L rfl) (by decide) rfl ?_
    refine z_loadB (want_L rfl) (by decide) rfl (by assumption) (by rfl) ?_
    refine z_len (want_L rfl) (by decide) rfl ?_
    refine z_cmpB (r := true) (want_L rfl) (by decide) rfl rfl rfl (iff_of_true rfl (by omega)) ?_
    refine zl_pureL rfl ?_
    refine zl_nil ?_
    refine zk_seq ?_
    refine zc_true rfl ?_
    refine zc_seq ?_
    refine zc_region ?_
    refine zl_pureL rfl ?_
    refine zl_nil ?_
    refine zk_seq ?_
    refine zc_ret ?_
    refine zk_ret_then ?_
    exact zk_ret1 (.inr rfl) rfl rfl ⟨rfl, Chg.refl _ _⟩
/-! the place of a node -/
theorem ofN_hit (L : List Mark) (nd : Int) : ∀ (k i j : Nat), i ≤ j → j < i + k → (∀ q, i ≤ q → q < j → (L.getD q Mark.z).node ≠ nd) → (L.getD j Mark.z).node = nd → ofN L nd i k = j
  | 0, i, j, h1, h2, _, _ => by omega
  | k + 1, i, j, h1, h2, h3, h4 => by
    unfold ofN
    by_cases hij : i = j
    · subst hij; rw [if_pos h4]
    · rw [if_neg (h3 i (Nat.le_refl _) (by omega))]
      exact ofN_hit L nd k (i + 1) j (by omega) (by omega) (fun q hq hq2 => h3 q (by omega) hq2) h4
theorem ofN_miss (L : List Mark) (nd : Int) : ∀ (k i : Nat), (∀ q, i ≤ q → q < i + k → (L.getD q Mark.z).node ≠ nd) → ofN L nd i k = -1
  | 0, i, _ => rfl
  | k + 1, i, h => by
    unfold ofN
    rw [if_neg (h i (Nat.le_refl _) (by omega))]
    exact ofN_miss L nd k (i + 1) (fun q hq hq2 => h q (by omega) (by omega))
/-- fewer than three alike: it is put behind -/
theorem pushM_few (L : List Mark) (x : Mark) (h : (L.filter (alike x)).length ≤ 2) : pushM L x = L ++ [x] := by
  unfold pushM
  rw [if_neg]
  unfold manyF
  have : ((L.drop (beginN L L.length)).filter (alike x)).length ≤ (L.filter (alike x)).length := by
    conv => rhs; rw [← List.take_append_drop (beginN L L.length) L, List.filter_append, List.length_append]
    omega
  omega
theorem alike_name {x a : Mark} (h : alike x a = true) : a.name = x.name := by
  unfold alike keyEq at h
  simp only [Bool.and_eq_true, decide_eq_true_eq] at h
  exact h.1.1
theorem pushM_fresh (L : List Mark) (x : Mark) (h : ∀ a ∈ L, a.name ≠ x.name) : pushM L x = L ++ [x] := by
  refine pushM_few L x ?_
  rw [List.filter_eq_nil_iff.2 (fun a ha hq => h a ha (alike_name hq))]
  exact Nat.zero_le _
end Go.Proofs.Ytaagolhokejflaa.M
