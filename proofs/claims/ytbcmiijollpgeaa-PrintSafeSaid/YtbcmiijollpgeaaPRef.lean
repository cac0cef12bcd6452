import Derived.Test.YtbcmiijollpgeaaPMade
/- The document's text of articles. -/
namespace Go.Proofs.Ytbcmiijollpgeaa.T
open Go Go.Z Go.Proofs
set_option linter.unusedVariables false
def beginsN (l p : List UInt8) : Bool := decide (l.take p.length = p)
theorem begins_calls {w : World} (l p : List UInt8) (hl : l.length ≤ big) (hp : p.length ≤ 1000) : Calls Try.prog 18 [.string (bs l), .string (bs p)].toArray w fun e w' => e = .returned (.bool (beginsN l p)) ∧ w' = w := by
  have hbig : big = 1000000000000 := rfl
  refine calls_zc (n := 18) (f := 18) (fn := Try.f18) Try.func18 rfl rfl (by simp) ?_
  by_cases h : p.length ≤ l.length
  · refine zc_seq ?_
    refine zc_region ?_
    refine zl_pureL rfl ?_
    refine zl_nil ?_
    refine zk_seq ?_
    refine zc_seq ?_
    refine zc_region ?_
    refine zl_pureL rfl ?_
    refine z_lenL want_none (by decide) rfl ?_
    refine zl_pureL rfl ?_
    refine z_lenL want_none (by decide) rfl ?_
    refine z_cmpB (r := true) want_none (by decide) rfl rfl rfl (iff_of_true rfl (by omega)) ?_
    iterate 3 (refine zl_pureL rfl ?_)
    refine z_lenL (want_L rfl) (by decide) rfl ?_
    refine z_cutN 0 p.length (by first | exact want_none | exact want_L rfl) (by decide) rfl rfl rfl rfl rfl (Nat.zero_le _) h ?_
    rw [List.drop_zero, Nat.sub_zero]
    refine zl_pureL rfl ?_
    refine z_eqL (by first | exact want_none | exact want_L rfl) (by decide) rfl rfl (fun hc => ?_) (fun hc => ?_)
    · iterate 2 (refine zl_pureL rfl ?_)
      refine zl_nil ?_
      refine zk_seq ?_
      refine zc_ret ?_
      exact zk_ret1 (.inr rfl) rfl rfl ⟨by unfold beginsN; rw [decide_eq_true hc], rfl⟩
    · iterate 2 (refine zl_pureL rfl ?_)
      refine zl_nil ?_
      refine zk_seq ?_
      refine zc_ret ?_
      exact zk_ret1 (.inr rfl) rfl rfl ⟨by unfold beginsN; rw [decide_eq_false hc], rfl⟩
  · refine zc_seq ?_
    refine zc_region ?_
    refine zl_pureL rfl ?_
    refine zl_nil ?_
    refine zk_seq ?_
    refine zc_seq ?_
    refine zc_region ?_
    refine zl_pureL rfl ?_
    refine z_lenL want_none (by decide) rfl ?_
    refine zl_pureL rfl ?_
    refine z_lenL want_none (by decide) rfl ?_
    refine z_cmpB (r := false) want_none (by decide) rfl rfl rfl (iff_of_false Bool.false_ne_true (by omega)) ?_
    iterate 3 (refine zl_pureL rfl ?_)
    iterate 2 (refine zl_skip rfl ?_)
    refine zl_pureL rfl ?_
    refine zl_skip rfl ?_
    iterate 2 (refine zl_pureL rfl ?_)
    refine zl_nil ?_
    refine zk_seq ?_
    refine zc_ret ?_
    refine zk_ret1 (.inr rfl) rfl rfl ⟨?_, rfl⟩
    unfold beginsN
    rw [decide_eq_false (fun hc => by have := congrArg List.length hc; rw [List.length_take] at this; omega)]
theorem begins2 (l : List UInt8) (i : Nat) : beginsN (l.drop i) [194, 160] = true ↔ byteL (l.drop i) 0 = 194 ∧ byteL (l.drop i) 1 = 160 := by
  unfold beginsN byteL
  have e : ∀ (c : UInt8) (k : Nat), k < 256 → (c.toNat = k ↔ c = UInt8.ofNat k) := fun c k hk => ⟨fun h => by rw [← h]; simp, fun h => by rw [h]; simp; omega⟩
  rw [decide_eq_true_iff, e _ 194 (by decide), e _ 160 (by decide)]
  rcases hl : l.drop i with _ | ⟨a, _ | ⟨b, r⟩⟩
  · simp
  · simp
  · simp
theorem begins10 (l : List UInt8) : beginsN l [10] = feedsS l := by
  unfold beginsN feedsS
  cases l with
  | nil => rfl
  | cons c r => simp
set_option maxHeartbeats 8000000 in
theorem safeR_calls {w : World} (l : List UInt8) (v : Bool) (hl : l.length ≤ big) : Calls Try.prog 26 [.string (bs l), .bool v].toArray w fun e w' => e = .returned (.string (bs (safeN v l))) ∧ Chg w w' No := by
  have hbig : big = 1000000000000 := rfl
  have hl' := hl
  rw [hbig] at hl
  have hsl := safe_len v l
  refine calls_zc (n := 68) (f := 26) (fn := Try.f26) Try.func26 rfl rfl (by simp) ?_
  refine zc_seq ?_
  refine zc_region ?_
  refine zl_pureL rfl ?_
  refine zl_nil ?_
  refine zk_seq ?_
  refine zc_seq ?_
  refine zc_region ?_
  refine zl_pureL rfl ?_
  refine zl_nil ?_
  refine zk_seq ?_
  iterate 2 (refine zc_seq ?_)
  refine zc_region ?_
  refine zl_pureL rfl ?_
  refine zl_nil ?_
  refine zk_seq ?_
  refine zc_block ?_
  refine zc_loopW (ι := Nat × List UInt8) (fun q u => [(0, .string (bs l)), (1, .bool v), (6, .int .i64 q.1), (5, .string (bs q.2))])
    (fun q u => q.1 ≤ l.length ∧ q.2 ++ safeN v (l.drop q.1) = safeN v l ∧ Chg w u No) (fun q u => l.length - q.1) (0, []) ⟨Nat.zero_le _, rfl, Chg.refl _ _⟩ ?_ ?_
  · exact ⟨rfl, rfl, rfl, rfl, trivial⟩
  rintro ⟨i, out⟩ u ⟨hi, hd, hC⟩
  dsimp only at hi hd hC ⊢
  have hol : out.length ≤ 6 * l.length := by
    have := congrArg List.length hd
    simp only [List.length_append] at this; omega
  by_cases hlt : i < l.length
  rotate_left
  · obtain rfl : i = l.length := by omega
    have hnil : safeN v ([] : List UInt8) = [] := by cases v <;> rfl
    rw [List.drop_length, hnil, List.append_nil] at hd
    iterate 2 (refine zc_seq ?_)
    refine zc_region ?_
    iterate 2 (refine zl_pureL rfl ?_)
    refine z_lenL want_none (by decide) rfl ?_
    refine z_cmpB (r := false) want_none (by decide) rfl rfl rfl (iff_of_false Bool.false_ne_true (by omega)) ?_
    refine zl_nil ?_
    refine zk_seq ?_
    refine zc_false rfl ?_
    refine zc_exit ?_
    iterate 2 (refine zk_exit_then ?_)
    refine zk_exit_block ?_
    refine zk_seq ?_
    refine zc_seq ?_
    refine zc_region ?_
    iterate 2 (refine zl_pureL rfl ?_)
    refine zl_nil ?_
    refine zk_seq ?_
    refine zc_ret ?_
    exact zk_ret1 (.inr rfl) rfl rfl ⟨by rw [hd], hC⟩
  have hdc := drop_cons0 l i hlt
  have hne : l.drop i ≠ [] := by rw [hdc]; simp
  have e0 : byteL (l.drop i) 0 = byteL l i := by rw [byte_drop, Nat.add_zero]
  have hb : Z.byteL l i = byteL l i := rfl
  by_cases q1 : byteL l i = 38
  · have hcond : escS v (l.drop i) = amp := by
      unfold escS; rw [e0, if_pos q1]
    rw [safe_esc v (l.drop i) hne (by rw [hcond]; decide) (fun h => absurd (hcond ▸ h) (by decide)), hcond, if_neg (by decide), List.drop_drop] at hd
    have hl1 : (amp : List UInt8).length ≤ 6 := by decide
    iterate 2 (refine zc_seq ?_)
    refine zc_region ?_
    iterate 2 (refine zl_pureL rfl ?_)
    refine z_lenL want_none (by decide) rfl ?_
    refine z_cmpB (r := true) want_none (by decide) rfl rfl rfl (iff_of_true rfl (by omega)) ?_
    refine zl_nil ?_
    refine zk_seq ?_
    refine zc_true rfl ?_
    refine zc_skip ?_
    refine zk_seq ?_
    refine zc_seq ?_
    iterate 2 (refine zc_block ?_)
    refine zc_seq ?_
    refine zc_region ?_
    iterate 2 (refine zl_pureL rfl ?_)
    refine z_idxN want_none (by decide) rfl rfl (by omega) ?_
    refine z_cmpB (r := true) want_none (by decide) rfl rfl rfl (iff_of_true rfl (by omega)) ?_
    refine zl_pureL rfl ?_
    refine zl_nil ?_
    refine zk_seq ?_
    refine zc_true rfl ?_
    refine zc_region ?_
    refine zl_pureL rfl ?_
    refine z_catL want_none (by decide) rfl rfl (by simp only [List.length_append, List.length_cons, List.length_nil]; omega) ?_
    refine zl_pureL rfl ?_
    refine zl_nil ?_
    iterate 2 (refine zk_norm_block ?_)
    refine zk_seq ?_
    refine zc_region ?_
    refine zl_pureL rfl ?_
    refine z_add want_none (by decide) rfl rfl (by omega) (by omega) ?_
    refine zl_pureL rfl ?_
    refine zl_nil ?_
    exact zk_loopW (i + 1, out ++ amp) ⟨by omega, by rw [List.append_assoc]; exact hd, hC⟩ (by show l.length - (i + 1) < l.length - i; omega) ⟨rfl, rfl, get_int rfl (by simp), rfl, trivial⟩
  by_cases q2 : byteL l i = 60
  · have hcond : escS v (l.drop i) = lt4 := by
      unfold escS; rw [e0, if_neg q1, if_pos q2]
    rw [safe_esc v (l.drop i) hne (by rw [hcond]; decide) (fun h => absurd (hcond ▸ h) (by decide)), hcond, if_neg (by decide), List.drop_drop] at hd
    have hl1 : (lt4 : List UInt8).length ≤ 6 := by decide
    iterate 2 (refine zc_seq ?_)
    refine zc_region ?_
    iterate 2 (refine zl_pureL rfl ?_)
    refine z_lenL want_none (by decide) rfl ?_
    refine z_cmpB (r := true) want_none (by decide) rfl rfl rfl (iff_of_true rfl (by omega)) ?_
    refine zl_nil ?_
    refine zk_seq ?_
    refine zc_true rfl ?_
    refine zc_skip ?_
    refine zk_seq ?_
    refine zc_seq ?_
    iterate 2 (refine zc_block ?_)
    refine zc_seq ?_
    refine zc_region ?_
    iterate 2 (refine zl_pureL rfl ?_)
    refine z_idxN want_none (by decide) rfl rfl (by omega) ?_
    refine z_cmpB (r := false) want_none (by decide) rfl rfl rfl (iff_of_false Bool.false_ne_true (by omega)) ?_
    refine zl_pureL rfl ?_
    refine zl_nil ?_
    refine zk_seq ?_
    refine zc_false rfl ?_
    refine zc_seq ?_
    refine zc_region ?_
    iterate 2 (refine zl_pureL rfl ?_)
    refine z_idxN want_none (by decide) rfl rfl (by omega) ?_
    refine z_cmpB (r := true) want_none (by decide) rfl rfl rfl (iff_of_true rfl (by omega)) ?_
    refine zl_pureL rfl ?_
    refine zl_nil ?_
    refine zk_seq ?_
    refine zc_true rfl ?_
    refine zc_region ?_
    refine zl_pureL rfl ?_
    refine z_catL want_none (by decide) rfl rfl (by simp only [List.length_append, List.length_cons, List.length_nil]; omega) ?_
    refine zl_pureL rfl ?_
    refine zl_nil ?_
    iterate 2 (refine zk_norm_block ?_)
    refine zk_seq ?_
    refine zc_region ?_
    refine zl_pureL rfl ?_
    refine z_add want_none (by decide) rfl rfl (by omega) (by omega) ?_
    refine zl_pureL rfl ?_
    refine zl_nil ?_
    exact zk_loopW (i + 1, out ++ lt4) ⟨by omega, by rw [List.append_assoc]; exact hd, hC⟩ (by show l.length - (i + 1) < l.length - i; omega) ⟨rfl, rfl, get_int rfl (by simp), rfl, trivial⟩
  by_cases q3 : byteL l i = 62
  · have hcond : escS v (l.drop i) = gt4 := by
      unfold escS; rw [e0, if_neg q1, if_neg q2, if_pos q3]
    rw [safe_esc v (l.drop i) hne (by rw [hcond]; decide) (fun h => absurd (hcond ▸ h) (by decide)), hcond, if_neg (by decide), List.drop_drop] at hd
    have hl1 : (gt4 : List UInt8).length ≤ 6 := by decide
    iterate 2 (refine zc_seq ?_)
    refine zc_region ?_
    iterate 2 (refine zl_pureL rfl ?_)
    refine z_lenL want_none (by decide) rfl ?_
    refine z_cmpB (r := true) want_none (by decide) rfl rfl rfl (iff_of_true rfl (by omega)) ?_
    refine zl_nil ?_
    refine zk_seq ?_
    refine zc_true rfl ?_
    refine zc_skip ?_
    refine zk_seq ?_
    refine zc_seq ?_
    iterate 2 (refine zc_block ?_)
    refine zc_seq ?_
    refine zc_region ?_
    iterate 2 (refine zl_pureL rfl ?_)
    refine z_idxN want_none (by decide) rfl rfl (by omega) ?_
    refine z_cmpB (r := false) want_none (by decide) rfl rfl rfl (iff_of_false Bool.false_ne_true (by omega)) ?_
    refine zl_pureL rfl ?_
    refine zl_nil ?_
    refine zk_seq ?_
    refine zc_false rfl ?_
    refine zc_seq ?_
    refine zc_region ?_
    iterate 2 (refine zl_pureL rfl ?_)
    refine z_idxN want_none (by decide) rfl rfl (by omega) ?_
    refine z_cmpB (r := false) want_none (by decide) rfl rfl rfl (iff_of_false Bool.false_ne_true (by omega)) ?_
    refine zl_pureL rfl ?_
    refine zl_nil ?_
    refine zk_seq ?_
    refine zc_false rfl ?_
    refine zc_seq ?_
    refine zc_region ?_
    iterate 2 (refine zl_pureL rfl ?_)
    refine z_idxN want_none (by decide) rfl rfl (by omega) ?_
    refine z_cmpB (r := true) want_none (by decide) rfl rfl rfl (iff_of_true rfl (by omega)) ?_
    refine zl_pureL rfl ?_
    refine zl_nil ?_
    refine zk_seq ?_
    refine zc_true rfl ?_
    refine zc_region ?_
    refine zl_pureL rfl ?_
    refine z_catL want_none (by decide) rfl rfl (by simp only [List.length_append, List.length_cons, List.length_nil]; omega) ?_
    refine zl_pureL rfl ?_
    refine zl_nil ?_
    iterate 2 (refine zk_norm_block ?_)
    refine zk_seq ?_
    refine zc_region ?_
    refine zl_pureL rfl ?_
    refine z_add want_none (by decide) rfl rfl (by omega) (by omega) ?_
    refine zl_pureL rfl ?_
    refine zl_nil ?_
    exact zk_loopW (i + 1, out ++ gt4) ⟨by omega, by rw [List.append_assoc]; exact hd, hC⟩ (by show l.length - (i + 1) < l.length - i; omega) ⟨rfl, rfl, get_int rfl (by simp), rfl, trivial⟩
  by_cases q4 : byteL l i = 13
  · have hcond : escS v (l.drop i) = cr5 := by
      unfold escS; rw [e0, if_neg q1, if_neg q2, if_neg q3, if_pos q4]
    rw [safe_esc v (l.drop i) hne (by rw [hcond]; decide) (fun h => absurd (hcond ▸ h) (by decide)), hcond, if_neg (by decide), List.drop_drop] at hd
    have hl1 : (cr5 : List UInt8).length ≤ 6 := by decide
    iterate 2 (refine zc_seq ?_)
    refine zc_region ?_
    iterate 2 (refine zl_pureL rfl ?_)
    refine z_lenL want_none (by decide) rfl ?_
    refine z_cmpB (r := true) want_none (by decide) rfl rfl rfl (iff_of_true rfl (by omega)) ?_
    refine zl_nil ?_
    refine zk_seq ?_
    refine zc_true rfl ?_
    refine zc_skip ?_
    refine zk_seq ?_
    refine zc_seq ?_
    iterate 2 (refine zc_block ?_)
    refine zc_seq ?_
    refine zc_region ?_
    iterate 2 (refine zl_pureL rfl ?_)
    refine z_idxN want_none (by decide) rfl rfl (by omega) ?_
    refine z_cmpB (r := false) want_none (by decide) rfl rfl rfl (iff_of_false Bool.false_ne_true (by omega)) ?_
    refine zl_pureL rfl ?_
    refine zl_nil ?_
    refine zk_seq ?_
    refine zc_false rfl ?_
    refine zc_seq ?_
    refine zc_region ?_
    iterate 2 (refine zl_pureL rfl ?_)
    refine z_idxN want_none (by decide) rfl rfl (by omega) ?_
    refine z_cmpB (r := false) want_none (by decide) rfl rfl rfl (iff_of_false Bool.false_ne_true (by omega)) ?_
    refine zl_pureL rfl ?_
    refine zl_nil ?_
    refine zk_seq ?_
    refine zc_false rfl ?_
    refine zc_seq ?_
    refine zc_region ?_
    iterate 2 (refine zl_pureL rfl ?_)
    refine z_idxN want_none (by decide) rfl rfl (by omega) ?_
    refine z_cmpB (r := false) want_none (by decide) rfl rfl rfl (iff_of_false Bool.false_ne_true (by omega)) ?_
    refine zl_pureL rfl ?_
    refine zl_nil ?_
    refine zk_seq ?_
    refine zc_false rfl ?_
    refine zc_seq ?_
    refine zc_region ?_
    iterate 2 (refine zl_pureL rfl ?_)
    refine z_idxN want_none (by decide) rfl rfl (by omega) ?_
    refine z_cmpB (r := true) want_none (by decide) rfl rfl rfl (iff_of_true rfl (by omega)) ?_
    refine zl_pureL rfl ?_
    refine zl_nil ?_
    refine zk_seq ?_
    refine zc_true rfl ?_
    refine zc_region ?_
    refine zl_pureL rfl ?_
    refine z_catL want_none (by decide) rfl rfl (by simp only [List.length_append, List.length_cons, List.length_nil]; omega) ?_
    refine zl_pureL rfl ?_
    refine zl_nil ?_
    iterate 2 (refine zk_norm_block ?_)
    refine zk_seq ?_
    refine zc_region ?_
    refine zl_pureL rfl ?_
    refine z_add want_none (by decide) rfl rfl (by omega) (by omega) ?_
    refine zl_pureL rfl ?_
    refine zl_nil ?_
    exact zk_loopW (i + 1, out ++ cr5) ⟨by omega, by rw [List.append_assoc]; exact hd, hC⟩ (by show l.length - (i + 1) < l.length - i; omega) ⟨rfl, rfl, get_int rfl (by simp), rfl, trivial⟩
  by_cases q5 : byteL l i = 34 ∧ v = true
  · have hcond : escS v (l.drop i) = quo := by
      unfold escS; rw [e0, if_neg q1, if_neg q2, if_neg q3, if_neg q4, if_pos q5]
    rw [safe_esc v (l.drop i) hne (by rw [hcond]; decide) (fun h => absurd (hcond ▸ h) (by decide)), hcond, if_neg (by decide), List.drop_drop] at hd
    have hl1 : (quo : List UInt8).length ≤ 6 := by decide
    obtain ⟨q5, rfl⟩ := q5
    iterate 2 (refine zc_seq ?_)
    refine zc_region ?_
    iterate 2 (refine zl_pureL rfl ?_)
    refine z_lenL want_none (by decide) rfl ?_
    refine z_cmpB (r := true) want_none (by decide) rfl rfl rfl (iff_of_true rfl (by omega)) ?_
    refine zl_nil ?_
    refine zk_seq ?_
    refine zc_true rfl ?_
    refine zc_skip ?_
    refine zk_seq ?_
    refine zc_seq ?_
    iterate 2 (refine zc_block ?_)
    refine zc_seq ?_
    refine zc_region ?_
    iterate 2 (refine zl_pureL rfl ?_)
    refine z_idxN want_none (by decide) rfl rfl (by omega) ?_
    refine z_cmpB (r := false) want_none (by decide) rfl rfl rfl (iff_of_false Bool.false_ne_true (by omega)) ?_
    refine zl_pureL rfl ?_
    refine zl_nil ?_
    refine zk_seq ?_
    refine zc_false rfl ?_
    refine zc_seq ?_
    refine zc_region ?_
    iterate 2 (refine zl_pureL rfl ?_)
    refine z_idxN want_none (by decide) rfl rfl (by omega) ?_
    refine z_cmpB (r := false) want_none (by decide) rfl rfl rfl (iff_of_false Bool.false_ne_true (by omega)) ?_
    refine zl_pureL rfl ?_
    refine zl_nil ?_
    refine zk_seq ?_
    refine zc_false rfl ?_
    refine zc_seq ?_
    refine zc_region ?_
    iterate 2 (refine zl_pureL rfl ?_)
    refine z_idxN want_none (by decide) rfl rfl (by omega) ?_
    refine z_cmpB (r := false) want_none (by decide) rfl rfl rfl (iff_of_false Bool.false_ne_true (by omega)) ?_
    refine zl_pureL rfl ?_
    refine zl_nil ?_
    refine zk_seq ?_
    refine zc_false rfl ?_
    refine zc_seq ?_
    refine zc_region ?_
    iterate 2 (refine zl_pureL rfl ?_)
    refine z_idxN want_none (by decide) rfl rfl (by omega) ?_
    refine z_cmpB (r := false) want_none (by decide) rfl rfl rfl (iff_of_false Bool.false_ne_true (by omega)) ?_
    refine zl_pureL rfl ?_
    refine zl_nil ?_
    refine zk_seq ?_
    refine zc_false rfl ?_
    refine zc_seq ?_
    refine zc_region ?_
    iterate 2 (refine zl_pureL rfl ?_)
    refine z_idxN want_none (by decide) rfl rfl (by omega) ?_
    refine z_cmpB (r := true) want_none (by decide) rfl rfl rfl (iff_of_true rfl (by omega)) ?_
    iterate 4 (refine zl_pureL rfl ?_)
    refine zl_nil ?_
    refine zk_seq ?_
    refine zc_true rfl ?_
    refine zc_region ?_
    refine zl_pureL rfl ?_
    refine z_catL want_none (by decide) rfl rfl (by simp only [List.length_append, List.length_cons, List.length_nil]; omega) ?_
    refine zl_pureL rfl ?_
    refine zl_nil ?_
    iterate 2 (refine zk_norm_block ?_)
    refine zk_seq ?_
    refine zc_region ?_
    refine zl_pureL rfl ?_
    refine z_add want_none (by decide) rfl rfl (by omega) (by omega) ?_
    refine zl_pureL rfl ?_
    refine zl_nil ?_
    exact zk_loopW (i + 1, out ++ quo) ⟨by omega, by rw [List.append_assoc]; exact hd, hC⟩ (by show l.length - (i + 1) < l.length - i; omega) ⟨rfl, rfl, get_int rfl (by simp), rfl, trivial⟩
  by_cases h34 : byteL l i = 34
  · have hv : v = false := by
      cases v
      · rfl
      · exact absurd ⟨h34, rfl⟩ q5
    subst hv
    iterate 2 (refine zc_seq ?_)
    refine zc_region ?_
    iterate 2 (refine zl_pureL rfl ?_)
    refine z_lenL want_none (by decide) rfl ?_
    refine z_cmpB (r := true) want_none (by decide) rfl rfl rfl (iff_of_true rfl (by omega)) ?_
    refine zl_nil ?_
    refine zk_seq ?_
    refine zc_true rfl ?_
    refine zc_skip ?_
    refine zk_seq ?_
    refine zc_seq ?_
    iterate 2 (refine zc_block ?_)
    refine zc_seq ?_
    refine zc_region ?_
    iterate 2 (refine zl_pureL rfl ?_)
    refine z_idxN want_none (by decide) rfl rfl (by omega) ?_
    refine z_cmpB (r := false) want_none (by decide) rfl rfl rfl (iff_of_false Bool.false_ne_true (by omega)) ?_
    refine zl_pureL rfl ?_
    refine zl_nil ?_
    refine zk_seq ?_
    refine zc_false rfl ?_
    refine zc_seq ?_
    refine zc_region ?_
    iterate 2 (refine zl_pureL rfl ?_)
    refine z_idxN want_none (by decide) rfl rfl (by omega) ?_
    refine z_cmpB (r := false) want_none (by decide) rfl rfl rfl (iff_of_false Bool.false_ne_true (by omega)) ?_
    refine zl_pureL rfl ?_
    refine zl_nil ?_
    refine zk_seq ?_
    refine zc_false rfl ?_
    refine zc_seq ?_
    refine zc_region ?_
    iterate 2 (refine zl_pureL rfl ?_)
    refine z_idxN want_none (by decide) rfl rfl (by omega) ?_
    refine z_cmpB (r := false) want_none (by decide) rfl rfl rfl (iff_of_false Bool.false_ne_true (by omega)) ?_
    refine zl_pureL rfl ?_
    refine zl_nil ?_
    refine zk_seq ?_
    refine zc_false rfl ?_
    refine zc_seq ?_
    refine zc_region ?_
    iterate 2 (refine zl_pureL rfl ?_)
    refine z_idxN want_none (by decide) rfl rfl (by omega) ?_
    refine z_cmpB (r := false) want_none (by decide) rfl rfl rfl (iff_of_false Bool.false_ne_true (by omega)) ?_
    refine zl_pureL rfl ?_
    refine zl_nil ?_
    refine zk_seq ?_
    refine zc_false rfl ?_
    refine zc_seq ?_
    refine zc_region ?_
    iterate 2 (refine zl_pureL rfl ?_)
    refine z_idxN want_none (by decide) rfl rfl (by omega) ?_
    refine z_cmpB (r := true) want_none (by decide) rfl rfl rfl (iff_of_true rfl (by omega)) ?_
    iterate 4 (refine zl_pureL rfl ?_)
    refine zl_nil ?_
    refine zk_seq ?_
    refine zc_false rfl ?_
    refine zc_seq ?_
    refine zc_region ?_
    iterate 2 (refine zl_pureL rfl ?_)
    refine z_cutN i l.length (by first | exact want_none | exact want_L rfl) (by decide) rfl rfl rfl rfl rfl (by omega) (Nat.le_refl _) ?_
    rw [show (l.drop i).take (l.length - i) = l.drop i from List.take_of_length_le (by rw [List.length_drop]; omega)]
    skip
    refine zl_call (by first | exact want_none | exact want_L rfl) rfl (by decide) rfl (begins_calls (l.drop i) [194, 160] (by rw [List.length_drop, hbig]; omega) (by decide)) ?_
    rintro _ u1 ⟨rfl, hu1⟩
    obtain rfl := hu1.symm
    refine ⟨_, rfl, ?_⟩
    by_cases hq : byteL (l.drop i) 0 = 194 ∧ byteL (l.drop i) 1 = 160
    · rw [(begins2 l i).2 hq]
      have hcond : escS false (l.drop i) = nbs := by
        unfold escS; rw [e0, if_neg q1, if_neg q2, if_neg q3, if_neg q4, if_neg q5, ← e0, if_pos hq]
      have hl2 : 1 < (l.drop i).length := by
        rcases Nat.lt_or_ge 1 (l.drop i).length with h14 | h14
        · exact h14
        · have h15 : byteL (l.drop i) 1 = 0 := by
            unfold byteL
            rw [List.getD_eq_getElem?_getD, List.getElem?_eq_none h14]; rfl
          have := hq.2
          omega
      have hl3 := hl2
      rw [List.length_drop] at hl3
      rw [safe_esc false (l.drop i) hne (by rw [hcond]; decide) (fun _ => hl2), hcond, if_pos rfl, List.drop_drop] at hd
      refine zl_pureL rfl ?_
      refine zl_nil ?_
      refine zk_seq ?_
      refine zc_true rfl ?_
      refine zc_seq ?_
      refine zc_region ?_
      refine zl_pureL rfl ?_
      refine z_catL want_none (by decide) rfl rfl (by omega) ?_
      refine zl_pureL rfl ?_
      refine zl_nil ?_
      refine zk_seq ?_
      refine zc_region ?_
      refine zl_pureL rfl ?_
      refine z_add want_none (by decide) rfl rfl (by omega) (by omega) ?_
      refine zl_pureL rfl ?_
      refine zl_nil ?_
      iterate 2 (refine zk_norm_block ?_)
      refine zk_seq ?_
      refine zc_region ?_
      refine zl_pureL rfl ?_
      refine z_add want_none (by decide) rfl rfl (by omega) (by omega) ?_
      refine zl_pureL rfl ?_
      refine zl_nil ?_
      exact zk_loopW (i + 2, out ++ nbs) ⟨by omega, by rw [List.append_assoc]; exact hd, hC⟩ (by show l.length - (i + 2) < l.length - i; omega) ⟨rfl, rfl, get_int rfl (by simp; omega), rfl, trivial⟩
    · have hbf : beginsN (l.drop i) [194, 160] = false := by
        rcases hbq : beginsN (l.drop i) [194, 160] with _ | _
        · rfl
        · exact absurd ((begins2 l i).1 hbq) hq
      rw [hbf]
      have hcond : escS false (l.drop i) = [] := by
        unfold escS; rw [e0, if_neg q1, if_neg q2, if_neg q3, if_neg q4, if_neg q5, ← e0, if_neg hq]
      rw [safe_as false (l.drop i) hne hcond, List.drop_drop] at hd
      have hg0 : (l.drop i).getD 0 0 = l.getD i 0 := by rw [hdc]; rfl
      rw [hg0] at hd
      refine zl_pureL rfl ?_
      refine zl_nil ?_
      refine zk_seq ?_
      refine zc_false rfl ?_
      refine zc_region ?_
      iterate 4 (refine zl_pureL rfl ?_)
      refine z_add want_none (by decide) rfl rfl (by omega) (by omega) ?_
      refine z_cutN i (i + 1) (by first | exact want_none | exact want_L rfl) (by decide) rfl rfl rfl rfl rfl (by omega) (by omega) ?_
      have ht1 : (l.drop i).take (i + 1 - i) = [l.getD i 0] := by rw [hdc, show i + 1 - i = 1 by omega]; rfl
      rw [ht1]
      refine z_catL want_none (by decide) rfl rfl (by simp only [List.length_append, List.length_cons, List.length_nil]; omega) ?_
      refine zl_pureL rfl ?_
      refine zl_nil ?_
      iterate 2 (refine zk_norm_block ?_)
      refine zk_seq ?_
      refine zc_region ?_
      refine zl_pureL rfl ?_
      refine z_add want_none (by decide) rfl rfl (by omega) (by omega) ?_
      refine zl_pureL rfl ?_
      refine zl_nil ?_
      exact zk_loopW (i + 1, out ++ [l.getD i 0]) ⟨by omega, by rw [List.append_assoc]; exact hd, hC⟩ (by show l.length - (i + 1) < l.length - i; omega) ⟨rfl, rfl, get_int rfl (by simp), rfl, trivial⟩
  · iterate 2 (refine zc_seq ?_)
    refine zc_region ?_
    iterate 2 (refine zl_pureL rfl ?_)
    refine z_lenL want_none (by decide) rfl ?_
    refine z_cmpB (r := true) want_none (by decide) rfl rfl rfl (iff_of_true rfl (by omega)) ?_
    refine zl_nil ?_
    refine zk_seq ?_
    refine zc_true rfl ?_
    refine zc_skip ?_
    refine zk_seq ?_
    refine zc_seq ?_
    iterate 2 (refine zc_block ?_)
    refine zc_seq ?_
    refine zc_region ?_
    iterate 2 (refine zl_pureL rfl ?_)
    refine z_idxN want_none (by decide) rfl rfl (by omega) ?_
    refine z_cmpB (r := false) want_none (by decide) rfl rfl rfl (iff_of_false Bool.false_ne_true (by omega)) ?_
    refine zl_pureL rfl ?_
    refine zl_nil ?_
    refine zk_seq ?_
    refine zc_false rfl ?_
    refine zc_seq ?_
    refine zc_region ?_
    iterate 2 (refine zl_pureL rfl ?_)
    refine z_idxN want_none (by decide) rfl rfl (by omega) ?_
    refine z_cmpB (r := false) want_none (by decide) rfl rfl rfl (iff_of_false Bool.false_ne_true (by omega)) ?_
    refine zl_pureL rfl ?_
    refine zl_nil ?_
    refine zk_seq ?_
    refine zc_false rfl ?_
    refine zc_seq ?_
    refine zc_region ?_
    iterate 2 (refine zl_pureL rfl ?_)
    refine z_idxN want_none (by decide) rfl rfl (by omega) ?_
    refine z_cmpB (r := false) want_none (by decide) rfl rfl rfl (iff_of_false Bool.false_ne_true (by omega)) ?_
    refine zl_pureL rfl ?_
    refine zl_nil ?_
    refine zk_seq ?_
    refine zc_false rfl ?_
    refine zc_seq ?_
    refine zc_region ?_
    iterate 2 (refine zl_pureL rfl ?_)
    refine z_idxN want_none (by decide) rfl rfl (by omega) ?_
    refine z_cmpB (r := false) want_none (by decide) rfl rfl rfl (iff_of_false Bool.false_ne_true (by omega)) ?_
    refine zl_pureL rfl ?_
    refine zl_nil ?_
    refine zk_seq ?_
    refine zc_false rfl ?_
    refine zc_seq ?_
    refine zc_region ?_
    iterate 2 (refine zl_pureL rfl ?_)
    refine z_idxN want_none (by decide) rfl rfl (by omega) ?_
    refine z_cmpB (r := false) want_none (by decide) rfl rfl rfl (iff_of_false Bool.false_ne_true (by omega)) ?_
    iterate 4 (refine zl_pureL rfl ?_)
    refine zl_nil ?_
    refine zk_seq ?_
    refine zc_false rfl ?_
    refine zc_seq ?_
    refine zc_region ?_
    iterate 2 (refine zl_pureL rfl ?_)
    refine z_cutN i l.length (by first | exact want_none | exact want_L rfl) (by decide) rfl rfl rfl rfl rfl (by omega) (Nat.le_refl _) ?_
    rw [show (l.drop i).take (l.length - i) = l.drop i from List.take_of_length_le (by rw [List.length_drop]; omega)]
    skip
    refine zl_call (by first | exact want_none | exact want_L rfl) rfl (by decide) rfl (begins_calls (l.drop i) [194, 160] (by rw [List.length_drop, hbig]; omega) (by decide)) ?_
    rintro _ u1 ⟨rfl, hu1⟩
    obtain rfl := hu1.symm
    refine ⟨_, rfl, ?_⟩
    by_cases hq : byteL (l.drop i) 0 = 194 ∧ byteL (l.drop i) 1 = 160
    · rw [(begins2 l i).2 hq]
      have hcond : escS v (l.drop i) = nbs := by
        unfold escS; rw [e0, if_neg q1, if_neg q2, if_neg q3, if_neg q4, if_neg q5, ← e0, if_pos hq]
      have hl2 : 1 < (l.drop i).length := by
        rcases Nat.lt_or_ge 1 (l.drop i).length with h14 | h14
        · exact h14
        · have h15 : byteL (l.drop i) 1 = 0 := by
            unfold byteL
            rw [List.getD_eq_getElem?_getD, List.getElem?_eq_none h14]; rfl
          have := hq.2
          omega
      have hl3 := hl2
      rw [List.length_drop] at hl3
      rw [safe_esc v (l.drop i) hne (by rw [hcond]; decide) (fun _ => hl2), hcond, if_pos rfl, List.drop_drop] at hd
      refine zl_pureL rfl ?_
      refine zl_nil ?_
      refine zk_seq ?_
      refine zc_true rfl ?_
      refine zc_seq ?_
      refine zc_region ?_
      refine zl_pureL rfl ?_
      refine z_catL want_none (by decide) rfl rfl (by simp only [List.length_append, List.length_cons, List.length_nil]; omega) ?_
      refine zl_pureL rfl ?_
      refine zl_nil ?_
      refine zk_seq ?_
      refine zc_region ?_
      refine zl_pureL rfl ?_
      refine z_add want_none (by decide) rfl rfl (by omega) (by omega) ?_
      refine zl_pureL rfl ?_
      refine zl_nil ?_
      iterate 2 (refine zk_norm_block ?_)
      refine zk_seq ?_
      refine zc_region ?_
      refine zl_pureL rfl ?_
      refine z_add want_none (by decide) rfl rfl (by omega) (by omega) ?_
      refine zl_pureL rfl ?_
      refine zl_nil ?_
      exact zk_loopW (i + 2, out ++ nbs) ⟨by omega, by rw [List.append_assoc]; exact hd, hC⟩ (by show l.length - (i + 2) < l.length - i; omega) ⟨rfl, rfl, get_int rfl (by simp; omega), rfl, trivial⟩
    · have hbf : beginsN (l.drop i) [194, 160] = false := by
        rcases hbq : beginsN (l.drop i) [194, 160] with _ | _
        · rfl
        · exact absurd ((begins2 l i).1 hbq) hq
      rw [hbf]
      have hcond : escS v (l.drop i) = [] := by
        unfold escS; rw [e0, if_neg q1, if_neg q2, if_neg q3, if_neg q4, if_neg q5, ← e0, if_neg hq]
      rw [safe_as v (l.drop i) hne hcond, List.drop_drop] at hd
      have hg0 : (l.drop i).getD 0 0 = l.getD i 0 := by rw [hdc]; rfl
      rw [hg0] at hd
      refine zl_pureL rfl ?_
      refine zl_nil ?_
      refine zk_seq ?_
      refine zc_false rfl ?_
      refine zc_region ?_
      iterate 4 (refine zl_pureL rfl ?_)
      refine z_add want_none (by decide) rfl rfl (by omega) (by omega) ?_
      refine z_cutN i (i + 1) (by first | exact want_none | exact want_L rfl) (by decide) rfl rfl rfl rfl rfl (by omega) (by omega) ?_
      have ht1 : (l.drop i).take (i + 1 - i) = [l.getD i 0] := by rw [hdc, show i + 1 - i = 1 by omega]; rfl
      rw [ht1]
      refine z_catL want_none (by decide) rfl rfl (by simp only [List.length_append, List.length_cons, List.length_nil]; omega) ?_
      refine zl_pureL rfl ?_
      refine zl_nil ?_
      iterate 2 (refine zk_norm_block ?_)
      refine zk_seq ?_
      refine zc_region ?_
      refine zl_pureL rfl ?_
      refine z_add want_none (by decide) rfl rfl (by omega) (by omega) ?_
      refine zl_pureL rfl ?_
      refine zl_nil ?_
      exact zk_loopW (i + 1, out ++ [l.getD i 0]) ⟨by omega, by rw [List.append_assoc]; exact hd, hC⟩ (by show l.length - (i + 1) < l.length - i; omega) ⟨rfl, rfl, get_int rfl (by simp), rfl, trivial⟩
end Go.Proofs.Ytbcmiijollpgeaa.T
