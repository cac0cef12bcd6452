import Derived.Test.YtbcmiijollpgeaaQ10
/- Whole signs: the document's Whole. -/
namespace Go.Proofs.Ytbcmiijollpgeaa.W
open Go Go.Z Go.Proofs
set_option linter.unusedVariables false
def leadN (c : Nat) : Nat × Nat × Nat :=
  if c < 128 then (1, 0, 0) else if 194 ≤ c ∧ c ≤ 223 then (2, 128, 191) else if c = 224 then (3, 160, 191) else if c = 237 then (3, 128, 159) else if 225 ≤ c ∧ c ≤ 239 then (3, 128, 191)
  else if c = 240 then (4, 144, 191) else if 241 ≤ c ∧ c ≤ 243 then (4, 128, 191) else if c = 244 then (4, 128, 143) else (0, 0, 0)
def leadV (c : Nat) : Value := .tuple #[.int .i64 (leadN c).1, .int .u8 (leadN c).2.1, .int .u8 (leadN c).2.2]
theorem lead_cases (c : Nat) : (c < 128 ∧ leadN c = (1, 0, 0)) ∨ (194 ≤ c ∧ c ≤ 223 ∧ leadN c = (2, 128, 191)) ∨ (c = 224 ∧ leadN c = (3, 160, 191)) ∨ (c = 237 ∧ leadN c = (3, 128, 159)) ∨ (225 ≤ c ∧ c ≤ 239 ∧ c ≠ 237 ∧ leadN c = (3, 128, 191)) ∨
    (c = 240 ∧ leadN c = (4, 144, 191)) ∨ (241 ≤ c ∧ c ≤ 243 ∧ leadN c = (4, 128, 191)) ∨ (c = 244 ∧ leadN c = (4, 128, 143)) ∨ ((128 ≤ c ∧ c < 194 ∨ 244 < c) ∧ leadN c = (0, 0, 0)) := by
  unfold leadN
  by_cases h1 : c < 128
  · left; exact ⟨h1, by rw [if_pos h1]⟩
  by_cases h2 : 194 ≤ c ∧ c ≤ 223
  · right; left; exact ⟨h2.1, h2.2, by rw [if_neg h1, if_pos h2]⟩
  by_cases h3 : c = 224
  · right; right; left; subst h3; exact ⟨rfl, rfl⟩
  by_cases h4 : c = 237
  · right; right; right; left; subst h4; exact ⟨rfl, rfl⟩
  by_cases h5 : 225 ≤ c ∧ c ≤ 239
  · right; right; right; right; left; exact ⟨h5.1, h5.2, h4, by rw [if_neg h1, if_neg h2, if_neg h3, if_neg h4, if_pos h5]⟩
  by_cases h6 : c = 240
  · right; right; right; right; right; left; subst h6; exact ⟨rfl, rfl⟩
  by_cases h7 : 241 ≤ c ∧ c ≤ 243
  · right; right; right; right; right; right; left; exact ⟨h7.1, h7.2, by rw [if_neg h1, if_neg h2, if_neg h3, if_neg h4, if_neg h5, if_neg h6, if_pos h7]⟩
  by_cases h8 : c = 244
  · right; right; right; right; right; right; right; left; subst h8; exact ⟨rfl, rfl⟩
  · right; right; right; right; right; right; right; right; exact ⟨by omega, by rw [if_neg h1, if_neg h2, if_neg h3, if_neg h4, if_neg h5, if_neg h6, if_neg h7, if_neg h8]⟩
theorem leadN_le (c : Nat) : (leadN c).1 ≤ 4 ∧ (leadN c).2.1 ≤ 255 ∧ (leadN c).2.2 ≤ 255 := by
  rcases lead_cases c with ⟨_, h⟩ | ⟨_, _, h⟩ | ⟨_, h⟩ | ⟨_, h⟩ | ⟨_, _, _, h⟩ | ⟨_, h⟩ | ⟨_, _, h⟩ | ⟨_, h⟩ | ⟨_, h⟩ <;> rw [h] <;> decide
theorem leadR_calls {w : World} (c : Nat) : Calls Try.prog 46 [.int .u8 c].toArray w fun e w' => e = .returned (leadV c) ∧ w' = w := by
  unfold leadV
  refine calls_zc (n := 41) (f := 46) (fn := Try.f46) Try.func46 rfl rfl (by simp) ?_
  refine zc_seq ?_
  refine zc_region ?_
  iterate 3 (refine zl_pureL rfl ?_)
  refine zl_nil ?_
  refine zk_seq ?_
  refine zc_seq ?_
  refine zc_block ?_
  refine zc_seq ?_
  refine zc_region ?_
  refine zl_pureL rfl ?_
  rcases lead_cases c with ⟨h1, hv⟩ | ⟨h1, h2, hv⟩ | ⟨h1, hv⟩ | ⟨h1, hv⟩ | ⟨h1, h2, h3, hv⟩ | ⟨h1, hv⟩ | ⟨h1, h2, hv⟩ | ⟨h1, hv⟩ | ⟨h1, hv⟩ <;> rw [hv]
  · refine z_cmpB (r := true) want_none (by decide) rfl rfl rfl (iff_of_true rfl (by omega)) ?_
    refine zl_pureL rfl ?_
    refine zl_nil ?_
    refine zk_seq ?_
    refine zc_true rfl ?_
    refine zc_seq ?_
    refine zc_region ?_
    iterate 3 (refine zl_pureL rfl ?_)
    refine zl_nil ?_
    refine zk_seq ?_
    refine zc_ret ?_
    refine zk_ret_block ?_
    refine zk_ret_then ?_
    exact zk_ret3 (.inr rfl) rfl rfl rfl rfl ⟨rfl, rfl⟩
  · refine z_cmpB (r := false) want_none (by decide) rfl rfl rfl (iff_of_false Bool.false_ne_true (by omega)) ?_
    refine zl_pureL rfl ?_
    refine zl_nil ?_
    refine zk_seq ?_
    refine zc_false rfl ?_
    refine zc_seq ?_
    refine zc_region ?_
    refine zl_pureL rfl ?_
    refine z_cmpB (r := true) want_none (by decide) rfl rfl rfl (iff_of_true rfl (by omega)) ?_
    iterate 2 (refine zl_pureL rfl ?_)
    refine z_cmpB (r := true) (want_L rfl) (by decide) rfl rfl rfl (iff_of_true rfl (by omega)) ?_
    iterate 2 (refine zl_pureL rfl ?_)
    refine zl_nil ?_
    refine zk_seq ?_
    refine zc_true rfl ?_
    refine zc_seq ?_
    refine zc_region ?_
    iterate 3 (refine zl_pureL rfl ?_)
    refine zl_nil ?_
    refine zk_seq ?_
    refine zc_ret ?_
    refine zk_ret_block ?_
    refine zk_ret_then ?_
    exact zk_ret3 (.inr rfl) rfl rfl rfl rfl ⟨rfl, rfl⟩
  · refine z_cmpB (r := false) want_none (by decide) rfl rfl rfl (iff_of_false Bool.false_ne_true (by omega)) ?_
    refine zl_pureL rfl ?_
    refine zl_nil ?_
    refine zk_seq ?_
    refine zc_false rfl ?_
    refine zc_seq ?_
    refine zc_region ?_
    refine zl_pureL rfl ?_
    refine z_cmpB (r := true) want_none (by decide) rfl rfl rfl (iff_of_true rfl (by omega)) ?_
    iterate 2 (refine zl_pureL rfl ?_)
    refine z_cmpB (r := false) (want_L rfl) (by decide) rfl rfl rfl (iff_of_false Bool.false_ne_true (by omega)) ?_
    iterate 2 (refine zl_pureL rfl ?_)
    refine zl_nil ?_
    refine zk_seq ?_
    refine zc_false rfl ?_
    refine zc_seq ?_
    refine zc_region ?_
    refine zl_pureL rfl ?_
    refine z_cmpB (r := true) want_none (by decide) rfl rfl rfl (iff_of_true rfl (by omega)) ?_
    refine zl_pureL rfl ?_
    refine zl_nil ?_
    refine zk_seq ?_
    refine zc_true rfl ?_
    refine zc_seq ?_
    refine zc_region ?_
    iterate 3 (refine zl_pureL rfl ?_)
    refine zl_nil ?_
    refine zk_seq ?_
    refine zc_ret ?_
    refine zk_ret_block ?_
    refine zk_ret_then ?_
    exact zk_ret3 (.inr rfl) rfl rfl rfl rfl ⟨rfl, rfl⟩
  · refine z_cmpB (r := false) want_none (by decide) rfl rfl rfl (iff_of_false Bool.false_ne_true (by omega)) ?_
    refine zl_pureL rfl ?_
    refine zl_nil ?_
    refine zk_seq ?_
    refine zc_false rfl ?_
    refine zc_seq ?_
    refine zc_region ?_
    refine zl_pureL rfl ?_
    refine z_cmpB (r := true) want_none (by decide) rfl rfl rfl (iff_of_true rfl (by omega)) ?_
    iterate 2 (refine zl_pureL rfl ?_)
    refine z_cmpB (r := false) (want_L rfl) (by decide) rfl rfl rfl (iff_of_false Bool.false_ne_true (by omega)) ?_
    iterate 2 (refine zl_pureL rfl ?_)
    refine zl_nil ?_
    refine zk_seq ?_
    refine zc_false rfl ?_
    refine zc_seq ?_
    refine zc_region ?_
    refine zl_pureL rfl ?_
    refine z_cmpB (r := false) want_none (by decide) rfl rfl rfl (iff_of_false Bool.false_ne_true (by omega)) ?_
    refine zl_pureL rfl ?_
    refine zl_nil ?_
    refine zk_seq ?_
    refine zc_false rfl ?_
    refine zc_seq ?_
    refine zc_region ?_
    refine zl_pureL rfl ?_
    refine z_cmpB (r := true) want_none (by decide) rfl rfl rfl (iff_of_true rfl (by omega)) ?_
    refine zl_pureL rfl ?_
    refine zl_nil ?_
    refine zk_seq ?_
    refine zc_true rfl ?_
    refine zc_seq ?_
    refine zc_region ?_
    iterate 3 (refine zl_pureL rfl ?_)
    refine zl_nil ?_
    refine zk_seq ?_
    refine zc_ret ?_
    refine zk_ret_block ?_
    refine zk_ret_then ?_
    exact zk_ret3 (.inr rfl) rfl rfl rfl rfl ⟨rfl, rfl⟩
  · refine z_cmpB (r := false) want_none (by decide) rfl rfl rfl (iff_of_false Bool.false_ne_true (by omega)) ?_
    refine zl_pureL rfl ?_
    refine zl_nil ?_
    refine zk_seq ?_
    refine zc_false rfl ?_
    refine zc_seq ?_
    refine zc_region ?_
    refine zl_pureL rfl ?_
    refine z_cmpB (r := true) want_none (by decide) rfl rfl rfl (iff_of_true rfl (by omega)) ?_
    iterate 2 (refine zl_pureL rfl ?_)
    refine z_cmpB (r := false) (want_L rfl) (by decide) rfl rfl rfl (iff_of_false Bool.false_ne_true (by omega)) ?_
    iterate 2 (refine zl_pureL rfl ?_)
    refine zl_nil ?_
    refine zk_seq ?_
    refine zc_false rfl ?_
    refine zc_seq ?_
    refine zc_region ?_
    refine zl_pureL rfl ?_
    refine z_cmpB (r := false) want_none (by decide) rfl rfl rfl (iff_of_false Bool.false_ne_true (by omega)) ?_
    refine zl_pureL rfl ?_
    refine zl_nil ?_
    refine zk_seq ?_
    refine zc_false rfl ?_
    refine zc_seq ?_
    refine zc_region ?_
    refine zl_pureL rfl ?_
    refine z_cmpB (r := false) want_none (by decide) rfl rfl rfl (iff_of_false Bool.false_ne_true (by omega)) ?_
    refine zl_pureL rfl ?_
    refine zl_nil ?_
    refine zk_seq ?_
    refine zc_false rfl ?_
    refine zc_seq ?_
    refine zc_region ?_
    refine zl_pureL rfl ?_
    refine z_cmpB (r := true) want_none (by decide) rfl rfl rfl (iff_of_true rfl (by omega)) ?_
    iterate 2 (refine zl_pureL rfl ?_)
    refine z_cmpB (r := true) (want_L rfl) (by decide) rfl rfl rfl (iff_of_true rfl (by omega)) ?_
    iterate 2 (refine zl_pureL rfl ?_)
    refine zl_nil ?_
    refine zk_seq ?_
    refine zc_true rfl ?_
    refine zc_seq ?_
    refine zc_region ?_
    iterate 3 (refine zl_pureL rfl ?_)
    refine zl_nil ?_
    refine zk_seq ?_
    refine zc_ret ?_
    refine zk_ret_block ?_
    refine zk_ret_then ?_
    exact zk_ret3 (.inr rfl) rfl rfl rfl rfl ⟨rfl, rfl⟩
  · refine z_cmpB (r := false) want_none (by decide) rfl rfl rfl (iff_of_false Bool.false_ne_true (by omega)) ?_
    refine zl_pureL rfl ?_
    refine zl_nil ?_
    refine zk_seq ?_
    refine zc_false rfl ?_
    refine zc_seq ?_
    refine zc_region ?_
    refine zl_pureL rfl ?_
    refine z_cmpB (r := true) want_none (by decide) rfl rfl rfl (iff_of_true rfl (by omega)) ?_
    iterate 2 (refine zl_pureL rfl ?_)
    refine z_cmpB (r := false) (want_L rfl) (by decide) rfl rfl rfl (iff_of_false Bool.false_ne_true (by omega)) ?_
    iterate 2 (refine zl_pureL rfl ?_)
    refine zl_nil ?_
    refine zk_seq ?_
    refine zc_false rfl ?_
    refine zc_seq ?_
    refine zc_region ?_
    refine zl_pureL rfl ?_
    refine z_cmpB (r := false) want_none (by decide) rfl rfl rfl (iff_of_false Bool.false_ne_true (by omega)) ?_
    refine zl_pureL rfl ?_
    refine zl_nil ?_
    refine zk_seq ?_
    refine zc_false rfl ?_
    refine zc_seq ?_
    refine zc_region ?_
    refine zl_pureL rfl ?_
    refine z_cmpB (r := false) want_none (by decide) rfl rfl rfl (iff_of_false Bool.false_ne_true (by omega)) ?_
    refine zl_pureL rfl ?_
    refine zl_nil ?_
    refine zk_seq ?_
    refine zc_false rfl ?_
    refine zc_seq ?_
    refine zc_region ?_
    refine zl_pureL rfl ?_
    refine z_cmpB (r := true) want_none (by decide) rfl rfl rfl (iff_of_true rfl (by omega)) ?_
    iterate 2 (refine zl_pureL rfl ?_)
    refine z_cmpB (r := false) (want_L rfl) (by decide) rfl rfl rfl (iff_of_false Bool.false_ne_true (by omega)) ?_
    iterate 2 (refine zl_pureL rfl ?_)
    refine zl_nil ?_
    refine zk_seq ?_
    refine zc_false rfl ?_
    refine zc_seq ?_
    refine zc_region ?_
    refine zl_pureL rfl ?_
    refine z_cmpB (r := true) want_none (by decide) rfl rfl rfl (iff_of_true rfl (by omega)) ?_
    refine zl_pureL rfl ?_
    refine zl_nil ?_
    refine zk_seq ?_
    refine zc_true rfl ?_
    refine zc_seq ?_
    refine zc_region ?_
    iterate 3 (refine zl_pureL rfl ?_)
    refine zl_nil ?_
    refine zk_seq ?_
    refine zc_ret ?_
    refine zk_ret_block ?_
    refine zk_ret_then ?_
    exact zk_ret3 (.inr rfl) rfl rfl rfl rfl ⟨rfl, rfl⟩
  · refine z_cmpB (r := false) want_none (by decide) rfl rfl rfl (iff_of_false Bool.false_ne_true (by omega)) ?_
    refine zl_pureL rfl ?_
    refine zl_nil ?_
    refine zk_seq ?_
    refine zc_false rfl ?_
    refine zc_seq ?_
    refine zc_region ?_
    refine zl_pureL rfl ?_
    refine z_cmpB (r := true) want_none (by decide) rfl rfl rfl (iff_of_true rfl (by omega)) ?_
    iterate 2 (refine zl_pureL rfl ?_)
    refine z_cmpB (r := false) (want_L rfl) (by decide) rfl rfl rfl (iff_of_false Bool.false_ne_true (by omega)) ?_
    iterate 2 (refine zl_pureL rfl ?_)
    refine zl_nil ?_
    refine zk_seq ?_
    refine zc_false rfl ?_
    refine zc_seq ?_
    refine zc_region ?_
    refine zl_pureL rfl ?_
    refine z_cmpB (r := false) want_none (by decide) rfl rfl rfl (iff_of_false Bool.false_ne_true (by omega)) ?_
    refine zl_pureL rfl ?_
    refine zl_nil ?_
    refine zk_seq ?_
    refine zc_false rfl ?_
    refine zc_seq ?_
    refine zc_region ?_
    refine zl_pureL rfl ?_
    refine z_cmpB (r := false) want_none (by decide) rfl rfl rfl (iff_of_false Bool.false_ne_true (by omega)) ?_
    refine zl_pureL rfl ?_
    refine zl_nil ?_
    refine zk_seq ?_
    refine zc_false rfl ?_
    refine zc_seq ?_
    refine zc_region ?_
    refine zl_pureL rfl ?_
    refine z_cmpB (r := true) want_none (by decide) rfl rfl rfl (iff_of_true rfl (by omega)) ?_
    iterate 2 (refine zl_pureL rfl ?_)
    refine z_cmpB (r := false) (want_L rfl) (by decide) rfl rfl rfl (iff_of_false Bool.false_ne_true (by omega)) ?_
    iterate 2 (refine zl_pureL rfl ?_)
    refine zl_nil ?_
    refine zk_seq ?_
    refine zc_false rfl ?_
    refine zc_seq ?_
    refine zc_region ?_
    refine zl_pureL rfl ?_
    refine z_cmpB (r := false) want_none (by decide) rfl rfl rfl (iff_of_false Bool.false_ne_true (by omega)) ?_
    refine zl_pureL rfl ?_
    refine zl_nil ?_
    refine zk_seq ?_
    refine zc_false rfl ?_
    refine zc_seq ?_
    refine zc_region ?_
    refine zl_pureL rfl ?_
    refine z_cmpB (r := true) want_none (by decide) rfl rfl rfl (iff_of_true rfl (by omega)) ?_
    iterate 2 (refine zl_pureL rfl ?_)
    refine z_cmpB (r := true) (want_L rfl) (by decide) rfl rfl rfl (iff_of_true rfl (by omega)) ?_
    iterate 2 (refine zl_pureL rfl ?_)
    refine zl_nil ?_
    refine zk_seq ?_
    refine zc_true rfl ?_
    refine zc_seq ?_
    refine zc_region ?_
    iterate 3 (refine zl_pureL rfl ?_)
    refine zl_nil ?_
    refine zk_seq ?_
    refine zc_ret ?_
    refine zk_ret_block ?_
    refine zk_ret_then ?_
    exact zk_ret3 (.inr rfl) rfl rfl rfl rfl ⟨rfl, rfl⟩
  · refine z_cmpB (r := false) want_none (by decide) rfl rfl rfl (iff_of_false Bool.false_ne_true (by omega)) ?_
    refine zl_pureL rfl ?_
    refine zl_nil ?_
    refine zk_seq ?_
    refine zc_false rfl ?_
    refine zc_seq ?_
    refine zc_region ?_
    refine zl_pureL rfl ?_
    refine z_cmpB (r := true) want_none (by decide) rfl rfl rfl (iff_of_true rfl (by omega)) ?_
    iterate 2 (refine zl_pureL rfl ?_)
    refine z_cmpB (r := false) (want_L rfl) (by decide) rfl rfl rfl (iff_of_false Bool.false_ne_true (by omega)) ?_
    iterate 2 (refine zl_pureL rfl ?_)
    refine zl_nil ?_
    refine zk_seq ?_
    refine zc_false rfl ?_
    refine zc_seq ?_
    refine zc_region ?_
    refine zl_pureL rfl ?_
    refine z_cmpB (r := false) want_none (by decide) rfl rfl rfl (iff_of_false Bool.false_ne_true (by omega)) ?_
    refine zl_pureL rfl ?_
    refine zl_nil ?_
    refine zk_seq ?_
    refine zc_false rfl ?_
    refine zc_seq ?_
    refine zc_region ?_
    refine zl_pureL rfl ?_
    refine z_cmpB (r := false) want_none (by decide) rfl rfl rfl (iff_of_false Bool.false_ne_true (by omega)) ?_
    refine zl_pureL rfl ?_
    refine zl_nil ?_
    refine zk_seq ?_
    refine zc_false rfl ?_
    refine zc_seq ?_
    refine zc_region ?_
    refine zl_pureL rfl ?_
    refine z_cmpB (r := true) want_none (by decide) rfl rfl rfl (iff_of_true rfl (by omega)) ?_
    iterate 2 (refine zl_pureL rfl ?_)
    refine z_cmpB (r := false) (want_L rfl) (by decide) rfl rfl rfl (iff_of_false Bool.false_ne_true (by omega)) ?_
    iterate 2 (refine zl_pureL rfl ?_)
    refine zl_nil ?_
    refine zk_seq ?_
    refine zc_false rfl ?_
    refine zc_seq ?_
    refine zc_region ?_
    refine zl_pureL rfl ?_
    refine z_cmpB (r := false) want_none (by decide) rfl rfl rfl (iff_of_false Bool.false_ne_true (by omega)) ?_
    refine zl_pureL rfl ?_
    refine zl_nil ?_
    refine zk_seq ?_
    refine zc_false rfl ?_
    refine zc_seq ?_
    refine zc_region ?_
    refine zl_pureL rfl ?_
    refine z_cmpB (r := true) want_none (by decide) rfl rfl rfl (iff_of_true rfl (by omega)) ?_
    iterate 2 (refine zl_pureL rfl ?_)
    refine z_cmpB (r := false) (want_L rfl) (by decide) rfl rfl rfl (iff_of_false Bool.false_ne_true (by omega)) ?_
    iterate 2 (refine zl_pureL rfl ?_)
    refine zl_nil ?_
    refine zk_seq ?_
    refine zc_false rfl ?_
    refine zc_seq ?_
    refine zc_region ?_
    refine zl_pureL rfl ?_
    refine z_cmpB (r := true) want_none (by decide) rfl rfl rfl (iff_of_true rfl (by omega)) ?_
    refine zl_pureL rfl ?_
    refine zl_nil ?_
    refine zk_seq ?_
    refine zc_true rfl ?_
    refine zc_seq ?_
    refine zc_region ?_
    iterate 3 (refine zl_pureL rfl ?_)
    refine zl_nil ?_
    refine zk_seq ?_
    refine zc_ret ?_
    refine zk_ret_block ?_
    refine zk_ret_then ?_
    exact zk_ret3 (.inr rfl) rfl rfl rfl rfl ⟨rfl, rfl⟩
  · rcases h1 with ⟨h1, h2⟩ | h1
    · refine z_cmpB (r := false) want_none (by decide) rfl rfl rfl (iff_of_false Bool.false_ne_true (by omega)) ?_
      refine zl_pureL rfl ?_
      refine zl_nil ?_
      refine zk_seq ?_
      refine zc_false rfl ?_
      refine zc_seq ?_
      refine zc_region ?_
      refine zl_pureL rfl ?_
      refine z_cmpB (r := false) want_none (by decide) rfl rfl rfl (iff_of_false Bool.false_ne_true (by omega)) ?_
      iterate 2 (refine zl_pureL rfl ?_)
      refine zl_skip rfl ?_
      iterate 2 (refine zl_pureL rfl ?_)
      refine zl_nil ?_
      refine zk_seq ?_
      refine zc_false rfl ?_
      refine zc_seq ?_
      refine zc_region ?_
      refine zl_pureL rfl ?_
      refine z_cmpB (r := false) want_none (by decide) rfl rfl rfl (iff_of_false Bool.false_ne_true (by omega)) ?_
      refine zl_pureL rfl ?_
      refine zl_nil ?_
      refine zk_seq ?_
      refine zc_false rfl ?_
      refine zc_seq ?_
      refine zc_region ?_
      refine zl_pureL rfl ?_
      refine z_cmpB (r := false) want_none (by decide) rfl rfl rfl (iff_of_false Bool.false_ne_true (by omega)) ?_
      refine zl_pureL rfl ?_
      refine zl_nil ?_
      refine zk_seq ?_
      refine zc_false rfl ?_
      refine zc_seq ?_
      refine zc_region ?_
      refine zl_pureL rfl ?_
      refine z_cmpB (r := false) want_none (by decide) rfl rfl rfl (iff_of_false Bool.false_ne_true (by omega)) ?_
      iterate 2 (refine zl_pureL rfl ?_)
      refine zl_skip rfl ?_
      iterate 2 (refine zl_pureL rfl ?_)
      refine zl_nil ?_
      refine zk_seq ?_
      refine zc_false rfl ?_
      refine zc_seq ?_
      refine zc_region ?_
      refine zl_pureL rfl ?_
      refine z_cmpB (r := false) want_none (by decide) rfl rfl rfl (iff_of_false Bool.false_ne_true (by omega)) ?_
      refine zl_pureL rfl ?_
      refine zl_nil ?_
      refine zk_seq ?_
      refine zc_false rfl ?_
      refine zc_seq ?_
      refine zc_region ?_
      refine zl_pureL rfl ?_
      refine z_cmpB (r := false) want_none (by decide) rfl rfl rfl (iff_of_false Bool.false_ne_true (by omega)) ?_
      iterate 2 (refine zl_pureL rfl ?_)
      refine zl_skip rfl ?_
      iterate 2 (refine zl_pureL rfl ?_)
      refine zl_nil ?_
      refine zk_seq ?_
      refine zc_false rfl ?_
      refine zc_seq ?_
      refine zc_region ?_
      refine zl_pureL rfl ?_
      refine z_cmpB (r := false) want_none (by decide) rfl rfl rfl (iff_of_false Bool.false_ne_true (by omega)) ?_
      refine zl_pureL rfl ?_
      refine zl_nil ?_
      refine zk_seq ?_
      refine zc_false rfl ?_
      refine zc_skip ?_
      refine zk_norm_block ?_
      refine zk_seq ?_
      refine zc_seq ?_
      refine zc_region ?_
      iterate 3 (refine zl_pureL rfl ?_)
      refine zl_nil ?_
      refine zk_seq ?_
      refine zc_ret ?_
      exact zk_ret3 (.inr rfl) rfl rfl rfl rfl ⟨rfl, rfl⟩
    · refine z_cmpB (r := false) want_none (by decide) rfl rfl rfl (iff_of_false Bool.false_ne_true (by omega)) ?_
      refine zl_pureL rfl ?_
      refine zl_nil ?_
      refine zk_seq ?_
      refine zc_false rfl ?_
      refine zc_seq ?_
      refine zc_region ?_
      refine zl_pureL rfl ?_
      refine z_cmpB (r := true) want_none (by decide) rfl rfl rfl (iff_of_true rfl (by omega)) ?_
      iterate 2 (refine zl_pureL rfl ?_)
      refine z_cmpB (r := false) (want_L rfl) (by decide) rfl rfl rfl (iff_of_false Bool.false_ne_true (by omega)) ?_
      iterate 2 (refine zl_pureL rfl ?_)
      refine zl_nil ?_
      refine zk_seq ?_
      refine zc_false rfl ?_
      refine zc_seq ?_
      refine zc_region ?_
      refine zl_pureL rfl ?_
      refine z_cmpB (r := false) want_none (by decide) rfl rfl rfl (iff_of_false Bool.false_ne_true (by omega)) ?_
      refine zl_pureL rfl ?_
      refine zl_nil ?_
      refine zk_seq ?_
      refine zc_false rfl ?_
      refine zc_seq ?_
      refine zc_region ?_
      refine zl_pureL rfl ?_
      refine z_cmpB (r := false) want_none (by decide) rfl rfl rfl (iff_of_false Bool.false_ne_true (by omega)) ?_
      refine zl_pureL rfl ?_
      refine zl_nil ?_
      refine zk_seq ?_
      refine zc_false rfl ?_
      refine zc_seq ?_
      refine zc_region ?_
      refine zl_pureL rfl ?_
      refine z_cmpB (r := true) want_none (by decide) rfl rfl rfl (iff_of_true rfl (by omega)) ?_
      iterate 2 (refine zl_pureL rfl ?_)
      refine z_cmpB (r := false) (want_L rfl) (by decide) rfl rfl rfl (iff_of_false Bool.false_ne_true (by omega)) ?_
      iterate 2 (refine zl_pureL rfl ?_)
      refine zl_nil ?_
      refine zk_seq ?_
      refine zc_false rfl ?_
      refine zc_seq ?_
      refine zc_region ?_
      refine zl_pureL rfl ?_
      refine z_cmpB (r := false) want_none (by decide) rfl rfl rfl (iff_of_false Bool.false_ne_true (by omega)) ?_
      refine zl_pureL rfl ?_
      refine zl_nil ?_
      refine zk_seq ?_
      refine zc_false rfl ?_
      refine zc_seq ?_
      refine zc_region ?_
      refine zl_pureL rfl ?_
      refine z_cmpB (r := true) want_none (by decide) rfl rfl rfl (iff_of_true rfl (by omega)) ?_
      iterate 2 (refine zl_pureL rfl ?_)
      refine z_cmpB (r := false) (want_L rfl) (by decide) rfl rfl rfl (iff_of_false Bool.false_ne_true (by omega)) ?_
      iterate 2 (refine zl_pureL rfl ?_)
      refine zl_nil ?_
      refine zk_seq ?_
      refine zc_false rfl ?_
      refine zc_seq ?_
      refine zc_region ?_
      refine zl_pureL rfl ?_
      refine z_cmpB (r := false) want_none (by decide) rfl rfl rfl (iff_of_false Bool.false_ne_true (by omega)) ?_
      refine zl_pureL rfl ?_
      refine zl_nil ?_
      refine zk_seq ?_
      refine zc_false rfl ?_
      refine zc_skip ?_
      refine zk_norm_block ?_
      refine zk_seq ?_
      refine zc_seq ?_
      refine zc_region ?_
      iterate 3 (refine zl_pureL rfl ?_)
      refine zl_nil ?_
      refine zk_seq ?_
      refine zc_ret ?_
      exact zk_ret3 (.inr rfl) rfl rfl rfl rfl ⟨rfl, rfl⟩
theorem leadR_calls' {w : World} (c n lo hi : Nat) (hv : leadN c = (n, lo, hi)) : Calls Try.prog 46 [.int .u8 c].toArray w fun e w' => e = .returned (.tuple #[.int .i64 n, .int .u8 lo, .int .u8 hi]) ∧ w' = w := by
  have := leadR_calls (w := w) c
  unfold leadV at this
  rwa [hv] at this
theorem byte_le (s : List UInt8) (k : Nat) : byteL s k ≤ 255 := by have := (s.getD k 0).toNat_lt; unfold byteL; omega
theorem byte_drop (l : List UInt8) (i k : Nat) : byteL (l.drop i) k = byteL l (i + k) := by
  simp [byteL, List.getD_eq_getElem?_getD, List.getElem?_drop]
def contS (s : List UInt8) (n : Nat) : Nat → Nat → Nat → Nat → Nat
  | 0, k, _, _ => k
  | f + 1, k, lo, hi => if k < n ∧ k < s.length ∧ lo ≤ byteL s k ∧ byteL s k ≤ hi then contS s n f (k + 1) 128 191 else k
def sizeS (s : List UInt8) : Nat := if (leadN (byteL s 0)).1 = 0 then 0 else contS s (leadN (byteL s 0)).1 ((leadN (byteL s 0)).1 - 1) 1 (leadN (byteL s 0)).2.1 (leadN (byteL s 0)).2.2
def okS (s : List UInt8) : Bool := decide (0 < (leadN (byteL s 0)).1 ∧ sizeS s = (leadN (byteL s 0)).1)
theorem contS_ge (s : List UInt8) (n : Nat) : ∀ f k lo hi, k ≤ contS s n f k lo hi
  | 0, k, _, _ => Nat.le_refl _
  | f + 1, k, lo, hi => by
    unfold contS
    split
    · exact Nat.le_trans (Nat.le_succ k) (contS_ge s n f (k + 1) 128 191)
    · exact Nat.le_refl _
theorem contS_le (s : List UInt8) (n : Nat) : ∀ f k lo hi, k ≤ s.length → contS s n f k lo hi ≤ s.length ∧ contS s n f k lo hi ≤ k + f
  | 0, k, _, _, h => ⟨h, Nat.le_refl _⟩
  | f + 1, k, lo, hi, h => by
    unfold contS
    split
    · rename_i hc
      have := contS_le s n f (k + 1) 128 191 (by omega)
      omega
    · omega
theorem sizeS_le (s : List UInt8) (h : s ≠ []) : sizeS s ≤ s.length ∧ sizeS s ≤ 4 := by
  have hl : 1 ≤ s.length := by cases s <;> simp_all
  have := leadN_le (byteL s 0)
  unfold sizeS
  split
  · omega
  · have := contS_le s (leadN (byteL s 0)).1 ((leadN (byteL s 0)).1 - 1) 1 (leadN (byteL s 0)).2.1 (leadN (byteL s 0)).2.2 hl
    omega
theorem okS_size {s : List UInt8} (h : okS s = true) : 1 ≤ sizeS s := by
  unfold okS at h; simp at h; omega
set_option maxHeartbeats 2000000 in
theorem part_calls {w : World} {l : List UInt8} (hl : l.length ≤ 1000000000000) (i : Nat) (hi : i < l.length) :
    Calls Try.prog 33 [.string (bs l), .int .i64 i].toArray w fun e w' => e = .returned (.tuple #[.int .i64 (sizeS (l.drop i)), .bool (okS (l.drop i))]) ∧ w' = w := by
  have hS : (l.drop i).length = l.length - i := by simp
  obtain ⟨n, lo, hi', hv⟩ : ∃ n lo hi, leadN (byteL l i) = (n, lo, hi) := ⟨_, _, _, rfl⟩
  have hle := leadN_le (byteL l i)
  have hv0 : leadN (byteL (l.drop i) 0) = (n, lo, hi') := by rw [byte_drop]; exact hv
  rw [hv] at hle
  obtain ⟨hn4, hlo, hhi⟩ := hle
  dsimp only at hn4 hlo hhi
  refine calls_zc (n := 58) (f := 33) (fn := Try.f33) Try.func33 rfl rfl (by simp) ?_
  refine zc_seq ?_
  refine zc_region ?_
  iterate 2 (refine zl_pureL rfl ?_)
  refine zl_nil ?_
  refine zk_seq ?_
  refine zc_seq ?_
  refine zc_region ?_
  iterate 2 (refine zl_pureL rfl ?_)
  refine z_idxN want_none (by decide) rfl rfl (by omega) ?_
  refine zl_call (by first | exact want_none | exact want_L rfl) rfl (by decide) rfl (leadR_calls' (byteL l i) n lo hi' hv) ?_
  rintro _ w1 ⟨rfl, rfl⟩
  refine ⟨_, rfl, ?_⟩
  by_cases h2 : n < 2
  · have e1 : sizeS (l.drop i) = n := by
      unfold sizeS; rw [hv0]; dsimp only
      split
      · omega
      · rw [show n - 1 = 0 by omega]; show 1 = n; omega
    have e2 : okS (l.drop i) = decide (n = 1) := by
      unfold okS; rw [e1, hv0]; dsimp only
      by_cases hq : n = 1
      · subst hq; rfl
      · rw [decide_eq_false hq, decide_eq_false]; omega
    rw [e1, e2]
    iterate 7 (refine zl_pureL rfl ?_)
    refine zl_nil ?_
    refine zk_seq ?_
    iterate 2 (refine zc_seq ?_)
    refine zc_region ?_
    refine zl_pureL rfl ?_
    refine z_cmpB (r := true) want_none (by decide) rfl rfl rfl (iff_of_true rfl (by omega)) ?_
    refine zl_nil ?_
    refine zk_seq ?_
    refine zc_true rfl ?_
    refine zc_seq ?_
    refine zc_region ?_
    iterate 2 (refine zl_pureL rfl ?_)
    refine z_cmpB (r := decide (n = 1)) (by first | exact want_none | exact want_L rfl) (by decide) rfl rfl rfl (by simp; omega) ?_
    iterate 2 (refine zl_pureL rfl ?_)
    refine zl_nil ?_
    refine zk_seq ?_
    refine zc_ret ?_
    refine zk_ret_then ?_
    exact zk_ret2 (.inr rfl) rfl rfl rfl ⟨rfl, rfl⟩
  · have e1 : sizeS (l.drop i) = contS (l.drop i) n (n - 1) 1 lo hi' := by unfold sizeS; rw [hv0]; rw [if_neg (by dsimp only; omega)]
    iterate 7 (refine zl_pureL rfl ?_)
    refine zl_nil ?_
    refine zk_seq ?_
    iterate 2 (refine zc_seq ?_)
    refine zc_region ?_
    refine zl_pureL rfl ?_
    refine z_cmpB (r := false) want_none (by decide) rfl rfl rfl (iff_of_false Bool.false_ne_true (by omega)) ?_
    refine zl_nil ?_
    refine zk_seq ?_
    refine zc_false rfl ?_
    refine zc_skip ?_
    refine zk_seq ?_
    refine zc_seq ?_
    refine zc_region ?_
    refine zl_pureL rfl ?_
    refine zl_nil ?_
    refine zk_seq ?_
    refine zc_seq ?_
    refine zc_block ?_
    refine zc_midB (fun u => u = w1) [(6, .int .i64 n), (9, .int .i64 (sizeS (l.drop i)))] ?_ ?_
    · refine zc_loop (ι := Nat × Nat × Nat) (fun q => [(0, .string (bs l)), (1, .int .i64 i), (6, .int .i64 n), (7, .int .u8 q.2.1), (8, .int .u8 q.2.2), (9, .int .i64 q.1)]) (fun _ => w1)
        (fun q => 1 ≤ q.1 ∧ q.1 ≤ n ∧ sizeS (l.drop i) = contS (l.drop i) n (n - q.1) q.1 q.2.1 q.2.2) (fun q => n - q.1) (1, lo, hi') ⟨Nat.le_refl _, by omega, e1⟩ ?_ ?_ ?_
      · rfl
      · exact ⟨rfl, rfl, rfl, rfl, rfl, rfl, trivial⟩
      rintro ⟨k, lo, hi''⟩ ⟨hk1, hkn, hk⟩
      dsimp only at hk1 hkn hk ⊢
      by_cases hlt : k < n
      · have hun : contS (l.drop i) n (n - k) k lo hi'' = if k < n ∧ k < (l.drop i).length ∧ lo ≤ byteL (l.drop i) k ∧ byteL (l.drop i) k ≤ hi'' then contS (l.drop i) n (n - (k + 1)) (k + 1) 128 191 else k := by
          rw [show n - k = (n - (k + 1)) + 1 by omega, contS]
        rw [hun, hS, byte_drop] at hk
        have hbad : ¬ (k < n ∧ k < l.length - i ∧ lo ≤ byteL l (i + k) ∧ byteL l (i + k) ≤ hi'') → sizeS (l.drop i) = k := fun hq => by
          rw [if_neg hq] at hk; exact hk
        by_cases hin : i + k < l.length
        · have hbyte : (l.getD (i + k) 0).toNat = byteL l (i + k) := rfl
          by_cases hlo2 : lo ≤ byteL l (i + k)
          · by_cases hhi2 : byteL l (i + k) ≤ hi''
            · iterate 2 (refine zc_seq ?_)
              refine zc_region ?_
              iterate 2 (refine zl_pureL rfl ?_)
              refine z_cmpB (r := true) want_none (by decide) rfl rfl rfl (iff_of_true rfl (by omega)) ?_
              iterate 3 (refine zl_pureL rfl ?_)
              refine z_add (want_L rfl) (by decide) rfl rfl (by omega) (by omega) ?_
              refine zl_pureL rfl ?_
              refine z_lenL (want_L rfl) (by decide) rfl ?_
              refine z_cmpB (r := true) (want_L rfl) (by decide) rfl rfl rfl (iff_of_true rfl (by omega)) ?_
              iterate 5 (refine zl_pureL rfl ?_)
              refine z_add (want_L rfl) (by decide) rfl rfl (by omega) (by omega) ?_
              refine z_idxN (want_L rfl) (by decide) rfl rfl (by omega) ?_
              refine zl_pureL rfl ?_
              refine z_cmpB (r := true) (want_L rfl) (by decide) rfl rfl rfl (iff_of_true rfl (by omega)) ?_
              iterate 5 (refine zl_pureL rfl ?_)
              refine z_add (want_L rfl) (by decide) rfl rfl (by omega) (by omega) ?_
              refine z_idxN (want_L rfl) (by decide) rfl rfl (by omega) ?_
              refine zl_pureL rfl ?_
              refine z_cmpB (r := true) (want_L rfl) (by decide) rfl rfl rfl (iff_of_true rfl (by omega)) ?_
              refine zl_pureL rfl ?_
              refine zl_nil ?_
              refine zk_seq ?_
              refine zc_true rfl ?_
              refine zc_skip ?_
              refine zk_seq ?_
              refine zc_block ?_
              refine zc_seq ?_
              refine zc_region ?_
              refine zl_pureL rfl ?_
              refine z_add want_none (by decide) rfl rfl (by omega) (by omega) ?_
              refine zl_pureL rfl ?_
              refine zl_nil ?_
              refine zk_seq ?_
              refine zc_region ?_
              iterate 2 (refine zl_pureL rfl ?_)
              refine zl_nil ?_
              refine zk_norm_block ?_
              refine zk_loop (k + 1, 128, 191) ⟨by omega, by omega, ?_⟩ (by simp; omega) rfl ⟨rfl, rfl, rfl, rfl, rfl, get_int rfl (by simp), trivial⟩
              rw [hk, if_pos ⟨hlt, by omega, hlo2, hhi2⟩]
            · have g1 := hbad (fun h => hhi2 h.2.2.2)
              iterate 2 (refine zc_seq ?_)
              refine zc_region ?_
              iterate 2 (refine zl_pureL rfl ?_)
              refine z_cmpB (r := true) want_none (by decide) rfl rfl rfl (iff_of_true rfl (by omega)) ?_
              iterate 3 (refine zl_pureL rfl ?_)
              refine z_add (want_L rfl) (by decide) rfl rfl (by omega) (by omega) ?_
              refine zl_pureL rfl ?_
              refine z_lenL (want_L rfl) (by decide) rfl ?_
              refine z_cmpB (r := true) (want_L rfl) (by decide) rfl rfl rfl (iff_of_true rfl (by omega)) ?_
              iterate 5 (refine zl_pureL rfl ?_)
              refine z_add (want_L rfl) (by decide) rfl rfl (by omega) (by omega) ?_
              refine z_idxN (want_L rfl) (by decide) rfl rfl (by omega) ?_
              refine zl_pureL rfl ?_
              refine z_cmpB (r := true) (want_L rfl) (by decide) rfl rfl rfl (iff_of_true rfl (by omega)) ?_
              iterate 5 (refine zl_pureL rfl ?_)
              refine z_add (want_L rfl) (by decide) rfl rfl (by omega) (by omega) ?_
              refine z_idxN (want_L rfl) (by decide) rfl rfl (by omega) ?_
              refine zl_pureL rfl ?_
              refine z_cmpB (r := false) (want_L rfl) (by decide) rfl rfl rfl (iff_of_false Bool.false_ne_true (by omega)) ?_
              refine zl_pureL rfl ?_
              refine zl_nil ?_
              refine zk_seq ?_
              refine zc_false rfl ?_
              refine zc_exit ?_
              iterate 2 (refine zk_exit_then ?_)
              refine zk_exit_block ?_
              exact zk_mid rfl ⟨rfl, get_int rfl (by omega), trivial⟩
          · have g1 := hbad (fun h => hlo2 h.2.2.1)
            iterate 2 (refine zc_seq ?_)
            refine zc_region ?_
            iterate 2 (refine zl_pureL rfl ?_)
            refine z_cmpB (r := true) want_none (by decide) rfl rfl rfl (iff_of_true rfl (by omega)) ?_
            iterate 3 (refine zl_pureL rfl ?_)
            refine z_add (want_L rfl) (by decide) rfl rfl (by omega) (by omega) ?_
            refine zl_pureL rfl ?_
            refine z_lenL (want_L rfl) (by decide) rfl ?_
            refine z_cmpB (r := true) (want_L rfl) (by decide) rfl rfl rfl (iff_of_true rfl (by omega)) ?_
            iterate 5 (refine zl_pureL rfl ?_)
            refine z_add (want_L rfl) (by decide) rfl rfl (by omega) (by omega) ?_
            refine z_idxN (want_L rfl) (by decide) rfl rfl (by omega) ?_
            refine zl_pureL rfl ?_
            refine z_cmpB (r := false) (want_L rfl) (by decide) rfl rfl rfl (iff_of_false Bool.false_ne_true (by omega)) ?_
            iterate 5 (refine zl_pureL rfl ?_)
            iterate 2 (refine zl_skip rfl ?_)
            refine zl_pureL rfl ?_
            refine zl_skip rfl ?_
            refine zl_pureL rfl ?_
            refine zl_nil ?_
            refine zk_seq ?_
            refine zc_false rfl ?_
            refine zc_exit ?_
            iterate 2 (refine zk_exit_then ?_)
            refine zk_exit_block ?_
            exact zk_mid rfl ⟨rfl, get_int rfl (by omega), trivial⟩
        · have g1 := hbad (fun h => hin (by omega))
          iterate 2 (refine zc_seq ?_)
          refine zc_region ?_
          iterate 2 (refine zl_pureL rfl ?_)
          refine z_cmpB (r := true) want_none (by decide) rfl rfl rfl (iff_of_true rfl (by omega)) ?_
          iterate 3 (refine zl_pureL rfl ?_)
          refine z_add (want_L rfl) (by decide) rfl rfl (by omega) (by omega) ?_
          refine zl_pureL rfl ?_
          refine z_lenL (want_L rfl) (by decide) rfl ?_
          refine z_cmpB (r := false) (want_L rfl) (by decide) rfl rfl rfl (iff_of_false Bool.false_ne_true (by omega)) ?_
          iterate 5 (refine zl_pureL rfl ?_)
          iterate 2 (refine zl_skip rfl ?_)
          refine zl_pureL rfl ?_
          refine zl_skip rfl ?_
          iterate 5 (refine zl_pureL rfl ?_)
          iterate 2 (refine zl_skip rfl ?_)
          refine zl_pureL rfl ?_
          refine zl_skip rfl ?_
          refine zl_pureL rfl ?_
          refine zl_nil ?_
          refine zk_seq ?_
          refine zc_false rfl ?_
          refine zc_exit ?_
          iterate 2 (refine zk_exit_then ?_)
          refine zk_exit_block ?_
          exact zk_mid rfl ⟨rfl, get_int rfl (by omega), trivial⟩
      · obtain rfl : k = n := by omega
        rw [Nat.sub_self] at hk
        have hk : sizeS (l.drop i) = k := hk
        iterate 2 (refine zc_seq ?_)
        refine zc_region ?_
        iterate 2 (refine zl_pureL rfl ?_)
        refine z_cmpB (r := false) want_none (by decide) rfl rfl rfl (iff_of_false Bool.false_ne_true (by omega)) ?_
        iterate 3 (refine zl_pureL rfl ?_)
        refine zl_skip rfl ?_
        refine zl_pureL rfl ?_
        iterate 2 (refine zl_skip rfl ?_)
        iterate 5 (refine zl_pureL rfl ?_)
        iterate 2 (refine zl_skip rfl ?_)
        refine zl_pureL rfl ?_
        refine zl_skip rfl ?_
        iterate 5 (refine zl_pureL rfl ?_)
        iterate 2 (refine zl_skip rfl ?_)
        refine zl_pureL rfl ?_
        refine zl_skip rfl ?_
        refine zl_pureL rfl ?_
        refine zl_nil ?_
        refine zk_seq ?_
        refine zc_false rfl ?_
        refine zc_exit ?_
        iterate 2 (refine zk_exit_then ?_)
        refine zk_exit_block ?_
        exact zk_mid rfl ⟨rfl, get_int rfl (by omega), trivial⟩
    rintro u rfl
    refine zc_seq ?_
    refine zc_region ?_
    iterate 3 (refine zl_pureL rfl ?_)
    refine z_cmpB (r := okS (l.drop i)) (by first | exact want_none | exact want_L rfl) (by decide) rfl rfl rfl (by unfold okS; rw [hv0]; simp; omega) ?_
    iterate 2 (refine zl_pureL rfl ?_)
    refine zl_nil ?_
    refine zk_seq ?_
    refine zc_ret ?_
    exact zk_ret2 (.inr rfl) rfl rfl rfl ⟨rfl, rfl⟩
theorem drop_ne {l : List UInt8} {i : Nat} (h : i < l.length) : l.drop i ≠ [] := by
  intro he; have := congrArg List.length he; rw [List.length_drop] at this; simp at this; omega
def wholeF : Nat → List UInt8 → Bool
  | 0, _ => true
  | f + 1, s => if s = [] then true else okS s && wholeF f (s.drop (sizeS s))
def whole (s : List UInt8) : Bool := wholeF s.length s
theorem wholeF_nil : ∀ f, wholeF f [] = true
  | 0 => rfl
  | f + 1 => by simp [wholeF]
theorem wholeF_fuel : ∀ (f g : Nat) (s : List UInt8), s.length ≤ f → s.length ≤ g → wholeF f s = wholeF g s
  | 0, g, s, hf, hg => by
    have : s = [] := List.eq_nil_of_length_eq_zero (by omega)
    subst this; simp [wholeF_nil]
  | f + 1, 0, s, hf, hg => by
    have : s = [] := List.eq_nil_of_length_eq_zero (by omega)
    subst this; simp [wholeF_nil]
  | f + 1, g + 1, s, hf, hg => by
    unfold wholeF
    split
    · rfl
    · cases hok : okS s
      · rfl
      · have := okS_size hok
        rw [wholeF_fuel f g _ (by rw [List.length_drop]; omega) (by rw [List.length_drop]; omega)]
theorem whole_nil : whole [] = true := rfl
theorem whole_cons (s : List UInt8) (h : s ≠ []) : whole s = (okS s && whole (s.drop (sizeS s))) := by
  have hl : 1 ≤ s.length := by cases s <;> simp_all
  unfold whole
  conv => lhs; rw [show s.length = (s.length - 1) + 1 by omega]; unfold wholeF
  rw [if_neg h]
  cases hok : okS s
  · rfl
  · have := okS_size hok
    rw [wholeF_fuel (s.length - 1) _ _ (by rw [List.length_drop]; omega) (Nat.le_refl _)]
theorem wholeR_calls {w : World} {l : List UInt8} (hl : l.length ≤ 1000000000000) : Calls Try.prog 19 [.string (bs l)].toArray w fun e w' => e = .returned (.bool (whole l)) ∧ w' = w := by
  refine calls_zc (n := 21) (f := 19) (fn := Try.f19) Try.func19 rfl rfl (by simp) ?_
  refine zc_seq ?_
  refine zc_region ?_
  refine zl_pureL rfl ?_
  refine zl_nil ?_
  refine zk_seq ?_
  refine zc_seq ?_
  refine zc_region ?_
  refine zl_pureL rfl ?_
  refine zl_nil ?_
  refine zk_seq ?_
  refine zc_seq ?_
  refine zc_block ?_
  refine zc_loop (ι := Nat) (fun p => [(0, .string (bs l)), (3, .int .i64 p)]) (fun _ => w) (fun p => p ≤ l.length ∧ whole (l.drop p) = whole l) (fun p => l.length - p) 0 ⟨Nat.zero_le _, rfl⟩ ?_ ?_ ?_
  · rfl
  · exact ⟨rfl, rfl, trivial⟩
  rintro p ⟨hp, hw⟩
  by_cases hlt : p < l.length
  · have hss := sizeS_le (l.drop p) (drop_ne hlt)
    rw [List.length_drop] at hss
    have hwc := whole_cons (l.drop p) (drop_ne hlt)
    rw [List.drop_drop] at hwc
    iterate 2 (refine zc_seq ?_)
    refine zc_region ?_
    iterate 2 (refine zl_pureL rfl ?_)
    refine z_lenL want_none (by decide) rfl ?_
    refine z_cmpB (r := true) want_none (by decide) rfl rfl rfl (iff_of_true rfl (by omega)) ?_
    refine zl_nil ?_
    refine zk_seq ?_
    refine zc_true rfl ?_
    refine zc_skip ?_
    refine zk_seq ?_
    refine zc_block ?_
    refine zc_seq ?_
    refine zc_region ?_
    iterate 2 (refine zl_pureL rfl ?_)
    refine zl_call (by first | exact want_none | exact want_L rfl) rfl (by decide) rfl (part_calls hl p hlt) ?_
    rintro _ u1 ⟨rfl, rfl⟩
    refine ⟨_, rfl, ?_⟩
    cases hok : okS (l.drop p)
    · rw [hok, Bool.false_and] at hwc
      iterate 5 (refine zl_pureL rfl ?_)
      refine zl_nil ?_
      refine zk_seq ?_
      iterate 2 (refine zc_seq ?_)
      refine zc_region ?_
      iterate 2 (refine zl_pureL rfl ?_)
      refine zl_nil ?_
      refine zk_seq ?_
      refine zc_true rfl ?_
      refine zc_seq ?_
      refine zc_region ?_
      refine zl_pureL rfl ?_
      refine zl_nil ?_
      refine zk_seq ?_
      refine zc_ret ?_
      refine zk_ret_then ?_
      refine zk_ret_block ?_
      refine zk_ret_then ?_
      refine zk_ret_block ?_
      refine zk_ret_then ?_
      exact zk_ret1 (.inr rfl) rfl rfl ⟨by rw [← hw, hwc], rfl⟩
    · have h1 := okS_size hok
      rw [hok, Bool.true_and] at hwc
      iterate 5 (refine zl_pureL rfl ?_)
      refine zl_nil ?_
      refine zk_seq ?_
      iterate 2 (refine zc_seq ?_)
      refine zc_region ?_
      iterate 2 (refine zl_pureL rfl ?_)
      refine zl_nil ?_
      refine zk_seq ?_
      refine zc_false rfl ?_
      refine zc_skip ?_
      refine zk_seq ?_
      refine zc_region ?_
      iterate 2 (refine zl_pureL rfl ?_)
      refine z_add want_none (by decide) rfl rfl (by omega) (by omega) ?_
      refine zl_pureL rfl ?_
      refine zl_nil ?_
      refine zk_norm_block ?_
      exact zk_loop (p + sizeS (l.drop p)) ⟨by omega, by rw [← hwc, hw]⟩ (by omega) rfl ⟨rfl, get_int rfl (by simp), trivial⟩
  · obtain rfl : p = l.length := by omega
    rw [List.drop_length, whole_nil] at hw
    iterate 2 (refine zc_seq ?_)
    refine zc_region ?_
    iterate 2 (refine zl_pureL rfl ?_)
    refine z_lenL want_none (by decide) rfl ?_
    refine z_cmpB (r := false) want_none (by decide) rfl rfl rfl (iff_of_false Bool.false_ne_true (by omega)) ?_
    refine zl_nil ?_
    refine zk_seq ?_
    refine zc_false rfl ?_
    refine zc_exit ?_
    iterate 2 (refine zk_exit_then ?_)
    refine zk_exit_block ?_
    refine zk_seq ?_
    refine zc_seq ?_
    refine zc_region ?_
    refine zl_pureL rfl ?_
    refine zl_nil ?_
    refine zk_seq ?_
    refine zc_ret ?_
    exact zk_ret1 (.inr rfl) rfl rfl ⟨by rw [← hw], rfl⟩
theorem contS_congr (s s' : List UInt8) (n : Nat) (hb : ∀ j, j < n → byteL s j = byteL s' j) (hl : n ≤ s.length) (hl' : n ≤ s'.length) : ∀ f k lo hi, contS s n f k lo hi = contS s' n f k lo hi
  | 0, k, _, _ => rfl
  | f + 1, k, lo, hi => by
    unfold contS
    by_cases hk : k < n
    · rw [hb k hk, contS_congr s s' n hb hl hl' f (k + 1) 128 191]
      have e1 : (k < s.length) = True := eq_true (by omega)
      have e2 : (k < s'.length) = True := eq_true (by omega)
      simp only [e1, e2]
    · rw [if_neg (fun h => hk h.1), if_neg (fun h => hk h.1)]
theorem byteL_app (s t : List UInt8) (n j : Nat) (hj : j < n) (hn : n ≤ s.length) : byteL (s.take n ++ t) j = byteL s j := by
  unfold byteL
  rw [List.getD_eq_getElem?_getD, List.getD_eq_getElem?_getD, List.getElem?_append_left (by simp; omega), List.getElem?_take, if_pos hj]
theorem sign_app {s : List UInt8} (t : List UInt8) (hne : s ≠ []) (h : okS s = true) : okS (s.take (sizeS s) ++ t) = true ∧ sizeS (s.take (sizeS s) ++ t) = sizeS s ∧ s.take (sizeS s) ++ t ≠ [] := by
  have h1 := okS_size h
  have hle := sizeS_le s hne
  have h0 : byteL (s.take (sizeS s) ++ t) 0 = byteL s 0 := byteL_app s t _ 0 (by omega) hle.1
  have hn : sizeS s = (leadN (byteL s 0)).1 := by unfold okS at h; simp at h; exact h.2
  have hsz : sizeS (s.take (sizeS s) ++ t) = sizeS s := by
    have hgen : ∀ u : List UInt8, byteL u 0 = byteL s 0 → sizeS u = contS u (leadN (byteL s 0)).1 ((leadN (byteL s 0)).1 - 1) 1 (leadN (byteL s 0)).2.1 (leadN (byteL s 0)).2.2 := by
      intro u hu
      unfold sizeS
      rw [hu]
      exact if_neg (by omega)
    rw [hgen _ h0]
    refine Eq.trans ?_ (hgen s rfl).symm
    refine contS_congr _ _ _ (fun j hj => byteL_app s t _ j (by omega) hle.1) ?_ (by omega) _ _ _ _
    rw [List.length_append, List.length_take]; omega
  refine ⟨?_, hsz, fun he => ?_⟩
  rotate_left
  · have := congrArg List.length he
    rw [List.length_append, List.length_take, List.length_nil] at this
    omega
  unfold okS at h ⊢
  rw [hsz, h0]; exact h
theorem whole_app {s : List UInt8} (t : List UInt8) (hne : s ≠ []) (h : okS s = true) : whole (s.take (sizeS s) ++ t) = whole t := by
  obtain ⟨h1, h2, hN⟩ := sign_app t hne h
  have hle := sizeS_le s hne
  rw [whole_cons _ hN, h1, h2, Bool.true_and]
  congr 1
  rw [List.drop_append_of_le_length (by rw [List.length_take]; omega), List.drop_eq_nil_of_le (by rw [List.length_take]; omega)]; rfl
theorem whole_split {s : List UInt8} (hs : s ≠ []) (h : whole s = true) : okS s = true ∧ whole (s.drop (sizeS s)) = true ∧ s = s.take (sizeS s) ++ s.drop (sizeS s) := by
  rw [whole_cons s hs] at h
  simp only [Bool.and_eq_true] at h
  exact ⟨h.1, h.2, (List.take_append_drop _ _).symm⟩
theorem whole_join : ∀ (n : Nat) (a b : List UInt8), a.length ≤ n → whole a = true → whole (a ++ b) = whole b
  | 0, a, b, h, hw => by
    have : a = [] := List.eq_nil_of_length_eq_zero (by omega)
    subst this; rfl
  | n + 1, a, b, h, hw => by
    by_cases ha : a = []
    · subst ha; rfl
    · obtain ⟨h1, h2, h3⟩ := whole_split ha hw
      have hs := okS_size h1
      have g2 := whole_join n (a.drop (sizeS a)) b (by rw [List.length_drop]; omega) h2
      have e : a ++ b = a.take (sizeS a) ++ (a.drop (sizeS a) ++ b) := by rw [← List.append_assoc, List.take_append_drop]
      rw [e, whole_app _ ha h1, g2]
theorem whole_both {a b : List UInt8} (ha : whole a = true) (hb : whole b = true) : whole (a ++ b) = true := by rw [whole_join _ a b (Nat.le_refl _) ha]; exact hb
end Go.Proofs.Ytbcmiijollpgeaa.W
