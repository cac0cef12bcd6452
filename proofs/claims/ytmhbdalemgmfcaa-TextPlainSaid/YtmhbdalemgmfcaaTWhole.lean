import Derived.Test.YtmhbdalemgmfcaaTLaw
/- Whole, as the program and as the document has it. -/
namespace Go.Proofs.Ytmhbdalemgmfcaa.T
open Go Go.Z Go.Proofs
set_option linter.unusedVariables false
def wholeF : Nat → List UInt8 → Bool
  | 0, _ => true
  | f + 1, s => if s = [] then true else okS s && wholeF f (s.drop (sizeS s))
def whole (s : List UInt8) : Bool := wholeF s.length s
theorem wholeF_nil : ∀ f, wholeF f [] = true
  | 0 => rfl
  | f + 1 => by simp [wholeF]
theorem wholeF_fuel : ∀ (f g : Nat) (s : List UInt8), s.length ≤ f → s.length ≤ g → wholeF f s = wholeF g s
  | 0, g, s, hf, hg => by
    have : s = [] := List.eq_nil_of_length_eq_zero (by omega)
    subst this; simp [wholeF_nil]
  | f + 1, 0, s, hf, hg => by
    have : s = [] := List.eq_nil_of_length_eq_zero (by omega)
    subst this; simp [wholeF_nil]
  | f + 1, g + 1, s, hf, hg => by
    unfold wholeF
    split
    · rfl
    · cases hok : okS s
      · rfl
      · have := okS_size hok
        rw [wholeF_fuel f g _ (by rw [List.length_drop]; omega) (by rw [List.length_drop]; omega)]
theorem whole_nil : whole [] = true := rfl
theorem whole_cons (s : List UInt8) (h : s ≠ []) : whole s = (okS s && whole (s.drop (sizeS s))) := by
  have hl : 1 ≤ s.length := by cases s <;> simp_all
  unfold whole
  conv => lhs; rw [show s.length = (s.length - 1) + 1 by omega]; unfold wholeF
  rw [if_neg h]
  cases hok : okS s
  · rfl
  · have := okS_size hok
    rw [wholeF_fuel (s.length - 1) _ _ (by rw [List.length_drop]; omega) (Nat.le_refl _)]
theorem take3L (l : List UInt8) : l.take 3 = lost ↔ lostP l := by
  have key : ∀ b : UInt8, ∀ k : Nat, k < 256 → (b.toNat = k ↔ b = UInt8.ofNat k) := fun b k hk => by
    constructor
    · intro h; rw [← h]; simp
    · intro h; rw [h]; simp; omega
  unfold lostP
  match l with
  | [] => simp [lost, byteL]
  | [a] => simp [lost]
  | [a, b] => simp [lost]
  | a :: b :: c :: r =>
    simp only [List.take_succ_cons, List.take_zero, lost, List.cons.injEq, and_true, byteL, List.getD_cons_zero, List.getD_cons_succ, List.length_cons]
    rw [key a 239 (by omega), key b 191 (by omega), key c 189 (by omega)]
    simp
theorem hasP_calls {w : World} (l : List UInt8) : Calls Try.prog 42 [.string (bs l), .string (bs lost)].toArray w fun e w' => ∃ q, e = .returned (.bool q) ∧ (q = true ↔ lostP l) ∧ w' = w := by
  refine (Try.strings_HasPrefix (bs l) (bs lost) w).mono ?_
  rintro e w' ⟨rfl, rfl⟩
  refine ⟨_, rfl, ?_, rfl⟩
  rw [← take3L]
  show (lost.isPrefixOf l = true) ↔ _
  rw [List.isPrefixOf_iff_prefix, List.prefix_iff_eq_take]
  exact eq_comm
set_option maxHeartbeats 4000000 in
theorem whole_calls {w : World} {l : List UInt8} (hl : l.length ≤ 100000) : Calls Try.prog 30 [.string (bs l)].toArray w fun e w' => e = .returned (.bool (whole l)) ∧ Chg w w' No := by
  refine calls_zc (n := 20) (f := 30) (fn := Try.f30) Try.func30 rfl rfl (by simp) ?_
  refine zc_seq ?_
  refine zc_region ?_
  refine zl_pureL rfl ?_
  refine zl_nil ?_
  refine zk_seq ?_
  iterate 2 (refine zc_seq ?_)
  refine zc_region ?_
  refine zl_pureL rfl ?_
  refine z_range (by first | exact want_none | exact want_L rfl) (by decide) rfl (fun w1 k hk hI hC => ?_)
  refine zl_nil ?_
  refine zk_seq ?_
  refine zc_block ?_
  refine zc_loopW (ι := Nat) (fun p u => [(0, .string (bs l)), (6, .pointer (some ⟨k, 0, none⟩))]) (fun p u => p ≤ l.length ∧ It u k l p ∧ Chg w u No ∧ whole (l.drop p) = whole l) (fun p u => l.length - p) 0 ⟨Nat.zero_le _, hI, hC, rfl⟩ ?_ ?_
  · exact ⟨rfl, rfl, trivial⟩
  rintro p u ⟨hp, hI, hC, hw⟩
  by_cases hlt : p < l.length
  · have hss := sizeS_le (l.drop p) (drop_ne hlt)
    rw [List.length_drop] at hss
    have hwc := whole_cons (l.drop p) (drop_ne hlt)
    rw [List.drop_drop] at hwc
    have hrl := read_law (l.drop p) (drop_ne hlt)
    rw [← decode_read l p hlt] at hrl
    refine zc_seq ?_
    refine zc_region ?_
    refine z_next (by first | exact want_none | exact want_L rfl) (by decide) rfl hI hlt (fun u1 hI1 hC1 => ?_)
    have hC1 : Chg w u1 No := hC.trans hC1 (fun i hi he => by subst he; omega)
    generalize Utf8.decode (bs l) p = dd at hrl hI1 ⊢
    obtain ⟨r, wd⟩ := dd
    dsimp only at hrl hI1 ⊢
    refine zl_pureL rfl ?_
    refine zl_nil ?_
    refine zk_seq ?_
    refine zc_seq ?_
    refine zc_true rfl ?_
    refine zc_skip ?_
    refine zk_seq ?_
    refine zc_block ?_
    refine zc_seq ?_
    refine zc_region ?_
    iterate 4 (refine zl_pureL rfl ?_)
    refine zl_nil ?_
    refine zk_seq ?_
    refine zc_seq ?_
    refine zc_region ?_
    refine zl_pureL rfl ?_
    rcases hrl with ⟨hok, hsz, hr⟩ | ⟨hok, hr, hnl⟩
    · have h1 := okS_size hok
      rw [hok, Bool.true_and] at hwc
      subst hsz
      have hnext : whole (l.drop (p + sizeS (l.drop p))) = whole l := by rw [← hwc, hw]
      by_cases hr5 : r = 65533
      · have hlp := hr hr5
        subst hr5
        refine z_cmpB (r := true) want_none (by decide) rfl rfl rfl (iff_of_true rfl (by omega)) ?_
        iterate 3 (refine zl_pureL rfl ?_)
        refine z_cutN p l.length (by first | exact want_none | exact want_L rfl) (by decide) rfl rfl rfl rfl rfl (by omega) (Nat.le_refl _) ?_
        rw [show (l.drop p).take (l.length - p) = l.drop p from List.take_of_length_le (by rw [List.length_drop]; omega)]
        refine zl_call (by first | exact want_none | exact want_L rfl) rfl (by decide) rfl (hasP_calls (l.drop p)) ?_
        rintro _ u2 ⟨q, rfl, hq, rfl⟩
        refine ⟨_, rfl, ?_⟩
        obtain rfl : q = true := hq.2 hlp
        iterate 2 (refine zl_pureL rfl ?_)
        refine zl_nil ?_
        refine zk_seq ?_
        refine zc_false rfl ?_
        refine zc_skip ?_
        refine zk_norm_block ?_
        exact zk_loopW (p + sizeS (l.drop p)) ⟨by omega, hI1, hC1, hnext⟩ (by omega) ⟨rfl, rfl, trivial⟩
      · refine z_cmpB (r := false) want_none (by decide) rfl rfl rfl (iff_of_false Bool.false_ne_true (by omega)) ?_
        iterate 3 (refine zl_pureL rfl ?_)
        iterate 2 (refine zl_skip rfl ?_)
        iterate 2 (refine zl_pureL rfl ?_)
        refine zl_nil ?_
        refine zk_seq ?_
        refine zc_false rfl ?_
        refine zc_skip ?_
        refine zk_norm_block ?_
        exact zk_loopW (p + sizeS (l.drop p)) ⟨by omega, hI1, hC1, hnext⟩ (by omega) ⟨rfl, rfl, trivial⟩
    · subst hr
      rw [hok, Bool.false_and] at hwc
      refine z_cmpB (r := true) want_none (by decide) rfl rfl rfl (iff_of_true rfl (by omega)) ?_
      iterate 3 (refine zl_pureL rfl ?_)
      refine z_cutN p l.length (by first | exact want_none | exact want_L rfl) (by decide) rfl rfl rfl rfl rfl (by omega) (Nat.le_refl _) ?_
      rw [show (l.drop p).take (l.length - p) = l.drop p from List.take_of_length_le (by rw [List.length_drop]; omega)]
      refine zl_call (by first | exact want_none | exact want_L rfl) rfl (by decide) rfl (hasP_calls (l.drop p)) ?_
      rintro _ u2 ⟨q, rfl, hq, rfl⟩
      refine ⟨_, rfl, ?_⟩
      obtain rfl : q = false := by
        cases q
        · rfl
        · exact absurd (hq.1 rfl) hnl
      iterate 2 (refine zl_pureL rfl ?_)
      refine zl_nil ?_
      refine zk_seq ?_
      refine zc_true rfl ?_
      refine zc_seq ?_
      refine zc_region ?_
      refine zl_pureL rfl ?_
      refine zl_nil ?_
      refine zk_seq ?_
      refine zc_ret ?_
      refine zk_ret_block ?_
      refine zk_ret_then ?_
      refine zk_ret_block ?_
      refine zk_ret_then ?_
      exact zk_ret1 (.inr rfl) rfl rfl ⟨by rw [← hw, hwc], hC1⟩
  · obtain rfl : p = l.length := by omega
    rw [List.drop_length, whole_nil] at hw
    refine zc_seq ?_
    refine zc_region ?_
    refine z_nextE (by first | exact want_none | exact want_L rfl) (by decide) rfl hI (Nat.lt_irrefl _) ?_
    refine zl_pureL rfl ?_
    refine zl_nil ?_
    refine zk_seq ?_
    refine zc_seq ?_
    refine zc_false rfl ?_
    refine zc_exit ?_
    iterate 2 (refine zk_exit_then ?_)
    refine zk_exit_block ?_
    refine zk_seq ?_
    refine zc_seq ?_
    refine zc_region ?_
    refine zl_pureL rfl ?_
    refine zl_nil ?_
    refine zk_seq ?_
    refine zc_ret ?_
    exact zk_ret1 (.inr rfl) rfl rfl ⟨by rw [← hw], hC⟩
theorem wholeR_calls {w : World} {l : List UInt8} (hl : l.length ≤ 100000) : Calls Try.prog 31 [.string (bs l)].toArray w fun e w' => e = .returned (.bool (whole l)) ∧ w' = w := by
  refine calls_zc (n := 21) (f := 31) (fn := Try.f31) Try.func31 rfl rfl (by simp) ?_
  refine zc_seq ?_
  refine zc_region ?_
  refine zl_pureL rfl ?_
  refine zl_nil ?_
  refine zk_seq ?_
  refine zc_seq ?_
  refine zc_region ?_
  refine zl_pureL rfl ?_
  refine zl_nil ?_
  refine zk_seq ?_
  refine zc_seq ?_
  refine zc_block ?_
  refine zc_loop (ι := Nat) (fun p => [(0, .string (bs l)), (3, .int .i64 p)]) (fun _ => w) (fun p => p ≤ l.length ∧ whole (l.drop p) = whole l) (fun p => l.length - p) 0 ⟨Nat.zero_le _, rfl⟩ ?_ ?_ ?_
  · rfl
  · exact ⟨rfl, rfl, trivial⟩
  rintro p ⟨hp, hw⟩
  by_cases hlt : p < l.length
  · have hss := sizeS_le (l.drop p) (drop_ne hlt)
    rw [List.length_drop] at hss
    have hwc := whole_cons (l.drop p) (drop_ne hlt)
    rw [List.drop_drop] at hwc
    iterate 2 (refine zc_seq ?_)
    refine zc_region ?_
    iterate 2 (refine zl_pureL rfl ?_)
    refine z_lenL want_none (by decide) rfl ?_
    refine z_cmpB (r := true) want_none (by decide) rfl rfl rfl (iff_of_true rfl (by omega)) ?_
    refine zl_nil ?_
    refine zk_seq ?_
    refine zc_true rfl ?_
    refine zc_skip ?_
    refine zk_seq ?_
    refine zc_block ?_
    refine zc_seq ?_
    refine zc_region ?_
    iterate 2 (refine zl_pureL rfl ?_)
    refine zl_call (by first | exact want_none | exact want_L rfl) rfl (by decide) rfl (part_calls hl p hlt) ?_
    rintro _ u1 ⟨rfl, rfl⟩
    refine ⟨_, rfl, ?_⟩
    cases hok : okS (l.drop p)
    · rw [hok, Bool.false_and] at hwc
      iterate 5 (refine zl_pureL rfl ?_)
      refine zl_nil ?_
      refine zk_seq ?_
      iterate 2 (refine zc_seq ?_)
      refine zc_region ?_
      iterate 2 (refine zl_pureL rfl ?_)
      refine zl_nil ?_
      refine zk_seq ?_
      refine zc_true rfl ?_
      refine zc_seq ?_
      refine zc_region ?_
      refine zl_pureL rfl ?_
      refine zl_nil ?_
      refine zk_seq ?_
      refine zc_ret ?_
      refine zk_ret_then ?_
      refine zk_ret_block ?_
      refine zk_ret_then ?_
      refine zk_ret_block ?_
      refine zk_ret_then ?_
      exact zk_ret1 (.inr rfl) rfl rfl ⟨by rw [← hw, hwc], rfl⟩
    · have h1 := okS_size hok
      rw [hok, Bool.true_and] at hwc
      iterate 5 (refine zl_pureL rfl ?_)
      refine zl_nil ?_
      refine zk_seq ?_
      iterate 2 (refine zc_seq ?_)
      refine zc_region ?_
      iterate 2 (refine zl_pureL rfl ?_)
      refine zl_nil ?_
      refine zk_seq ?_
      refine zc_false rfl ?_
      refine zc_skip ?_
      refine zk_seq ?_
      refine zc_region ?_
      iterate 2 (refine zl_pureL rfl ?_)
      refine z_add want_none (by decide) rfl rfl (by omega) (by omega) ?_
      refine zl_pureL rfl ?_
      refine zl_nil ?_
      refine zk_norm_block ?_
      exact zk_loop (p + sizeS (l.drop p)) ⟨by omega, by rw [← hwc, hw]⟩ (by omega) rfl ⟨rfl, get_int rfl (by simp), trivial⟩
  · obtain rfl : p = l.length := by omega
    rw [List.drop_length, whole_nil] at hw
    iterate 2 (refine zc_seq ?_)
    refine zc_region ?_
    iterate 2 (refine zl_pureL rfl ?_)
    refine z_lenL want_none (by decide) rfl ?_
    refine z_cmpB (r := false) want_none (by decide) rfl rfl rfl (iff_of_false Bool.false_ne_true (by omega)) ?_
    refine zl_nil ?_
    refine zk_seq ?_
    refine zc_false rfl ?_
    refine zc_exit ?_
    iterate 2 (refine zk_exit_then ?_)
    refine zk_exit_block ?_
    refine zk_seq ?_
    refine zc_seq ?_
    refine zc_region ?_
    refine zl_pureL rfl ?_
    refine zl_nil ?_
    refine zk_seq ?_
    refine zc_ret ?_
    exact zk_ret1 (.inr rfl) rfl rfl ⟨by rw [← hw], rfl⟩
end Go.Proofs.Ytmhbdalemgmfcaa.T
