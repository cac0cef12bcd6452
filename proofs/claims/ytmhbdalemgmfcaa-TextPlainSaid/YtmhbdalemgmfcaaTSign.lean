import Derived.Test.YtmhbdalemgmfcaaTBase
/- One sign: how long it is, and whether it is whole. -/
namespace Go.Proofs.Ytmhbdalemgmfcaa.T
open Go Go.Z Go.Proofs
set_option linter.unusedVariables false
theorem byte_le (s : List UInt8) (k : Nat) : byteL s k ≤ 255 := by have := (s.getD k 0).toNat_lt; unfold byteL; omega
theorem byte_drop (l : List UInt8) (i k : Nat) : byteL (l.drop i) k = byteL l (i + k) := by
  simp [byteL, List.getD_eq_getElem?_getD, List.getElem?_drop]
def contS (s : List UInt8) (n : Nat) : Nat → Nat → Nat → Nat → Nat
  | 0, k, _, _ => k
  | f + 1, k, lo, hi => if k < n ∧ k < s.length ∧ lo ≤ byteL s k ∧ byteL s k ≤ hi then contS s n f (k + 1) 128 191 else k
def sizeS (s : List UInt8) : Nat := if (leadN (byteL s 0)).1 = 0 then 0 else contS s (leadN (byteL s 0)).1 ((leadN (byteL s 0)).1 - 1) 1 (leadN (byteL s 0)).2.1 (leadN (byteL s 0)).2.2
def okS (s : List UInt8) : Bool := decide (0 < (leadN (byteL s 0)).1 ∧ sizeS s = (leadN (byteL s 0)).1)
theorem contS_ge (s : List UInt8) (n : Nat) : ∀ f k lo hi, k ≤ contS s n f k lo hi
  | 0, k, _, _ => Nat.le_refl _
  | f + 1, k, lo, hi => by
    unfold contS
    split
    · exact Nat.le_trans (Nat.le_succ k) (contS_ge s n f (k + 1) 128 191)
    · exact Nat.le_refl _
theorem contS_le (s : List UInt8) (n : Nat) : ∀ f k lo hi, k ≤ s.length → contS s n f k lo hi ≤ s.length ∧ contS s n f k lo hi ≤ k + f
  | 0, k, _, _, h => ⟨h, Nat.le_refl _⟩
  | f + 1, k, lo, hi, h => by
    unfold contS
    split
    · rename_i hc
      have := contS_le s n f (k + 1) 128 191 (by omega)
      omega
    · omega
theorem sizeS_le (s : List UInt8) (h : s ≠ []) : sizeS s ≤ s.length ∧ sizeS s ≤ 4 := by
  have hl : 1 ≤ s.length := by cases s <;> simp_all
  have := leadN_le (byteL s 0)
  unfold sizeS
  split
  · omega
  · have := contS_le s (leadN (byteL s 0)).1 ((leadN (byteL s 0)).1 - 1) 1 (leadN (byteL s 0)).2.1 (leadN (byteL s 0)).2.2 hl
    omega
theorem okS_size {s : List UInt8} (h : okS s = true) : 1 ≤ sizeS s := by
  unfold okS at h; simp at h; omega
set_option maxHeartbeats 2000000 in
theorem sign_calls {w : World} {v : Value} {l : List UInt8} (h : RB w v l) (hl : l.length ≤ 100000) (i : Nat) (hi : i < l.length) :
    Calls Try.prog 36 [v, .int .i64 i].toArray w fun e w' => e = .returned (.tuple #[.int .i64 (max (sizeS (l.drop i)) 1 : Nat), .bool (okS (l.drop i))]) ∧ w' = w := by
  obtain ⟨b, o, c, rfl, hc, hb⟩ := h.at_ i hi
  have hS : (l.drop i).length = l.length - i := by simp
  obtain ⟨n, lo, hi', hv⟩ : ∃ n lo hi, leadN (byteL l i) = (n, lo, hi) := ⟨_, _, _, rfl⟩
  have hle := leadN_le (byteL l i)
  have hv0 : leadN (byteL (l.drop i) 0) = (n, lo, hi') := by rw [byte_drop]; exact hv
  rw [hv] at hle
  obtain ⟨hn4, hlo, hhi⟩ := hle
  dsimp only at hn4 hlo hhi
  refine calls_zc (n := 54) (f := 36) (fn := Try.f36) Try.func36 rfl rfl (by simp) ?_
  refine zc_seq ?_
  refine zc_region ?_
  iterate 2 (refine zl_pureL rfl ?_)
  refine zl_nil ?_
  refine zk_seq ?_
  refine zc_seq ?_
  refine zc_region ?_
  iterate 2 (refine zl_pureL rfl ?_)
  refine z_ia want_none (by decide) rfl rfl (by omega) (by omega) ?_
  refine z_load1 (by first | exact want_none | exact want_L rfl) (by decide) rfl (cell_at (hb i hi) (by omega)) ?_
  refine zl_call (by first | exact want_none | exact want_L rfl) rfl (by decide) rfl (lead_calls' (byteL l i) n lo hi' hv) ?_
  rintro _ w1 ⟨rfl, rfl⟩
  refine ⟨_, rfl, ?_⟩
  by_cases h0 : n = 0
  · subst h0
    have e1 : sizeS (l.drop i) = 0 := by unfold sizeS; rw [hv0]; rfl
    have e2 : okS (l.drop i) = false := by unfold okS; rw [hv0]; simp
    rw [e1, e2]
    iterate 7 (refine zl_pureL rfl ?_)
    refine zl_nil ?_
    refine zk_seq ?_
    iterate 2 (refine zc_seq ?_)
    refine zc_region ?_
    refine zl_pureL rfl ?_
    refine z_cmpB (r := true) want_none (by decide) rfl rfl rfl (iff_of_true rfl (by omega)) ?_
    refine zl_nil ?_
    refine zk_seq ?_
    refine zc_true rfl ?_
    refine zc_seq ?_
    refine zc_region ?_
    iterate 2 (refine zl_pureL rfl ?_)
    refine zl_nil ?_
    refine zk_seq ?_
    refine zc_ret ?_
    refine zk_ret_then ?_
    exact zk_ret2 (.inr rfl) rfl rfl rfl ⟨rfl, rfl⟩
  · have e1 : sizeS (l.drop i) = contS (l.drop i) n (n - 1) 1 lo hi' := by unfold sizeS; rw [hv0]; rw [if_neg h0]
    iterate 7 (refine zl_pureL rfl ?_)
    refine zl_nil ?_
    refine zk_seq ?_
    iterate 2 (refine zc_seq ?_)
    refine zc_region ?_
    refine zl_pureL rfl ?_
    refine z_cmpB (r := false) want_none (by decide) rfl rfl rfl (iff_of_false Bool.false_ne_true (by omega)) ?_
    refine zl_nil ?_
    refine zk_seq ?_
    refine zc_false rfl ?_
    refine zc_skip ?_
    refine zk_seq ?_
    iterate 2 (refine zc_seq ?_)
    refine zc_region ?_
    refine zl_pureL rfl ?_
    refine zl_nil ?_
    refine zk_seq ?_
    refine zc_block ?_
    refine zc_loop (ι := Nat × Nat × Nat) (fun q => [(0, .slice (some ⟨b, o, none⟩) l.length c), (1, .int .i64 i), (6, .int .i64 n), (7, .int .u8 q.2.1), (8, .int .u8 q.2.2), (9, .int .i64 q.1)]) (fun _ => w1)
      (fun q => 1 ≤ q.1 ∧ q.1 ≤ n ∧ sizeS (l.drop i) = contS (l.drop i) n (n - q.1) q.1 q.2.1 q.2.2) (fun q => n - q.1) (1, lo, hi') ⟨Nat.le_refl _, by omega, e1⟩ ?_ ?_ ?_
    · rfl
    · exact ⟨rfl, rfl, rfl, rfl, rfl, rfl, trivial⟩
    rintro ⟨k, lo, hi''⟩ ⟨hk1, hkn, hk⟩
    dsimp only at hk1 hkn hk ⊢
    by_cases hlt : k < n
    · have hun : contS (l.drop i) n (n - k) k lo hi'' = if k < n ∧ k < (l.drop i).length ∧ lo ≤ byteL (l.drop i) k ∧ byteL (l.drop i) k ≤ hi'' then contS (l.drop i) n (n - (k + 1)) (k + 1) 128 191 else k := by
        rw [show n - k = (n - (k + 1)) + 1 by omega, contS]
      rw [hun, hS, byte_drop] at hk
      have hbad : ¬ (k < n ∧ k < l.length - i ∧ lo ≤ byteL l (i + k) ∧ byteL l (i + k) ≤ hi'') → max (sizeS (l.drop i)) 1 = k ∧ okS (l.drop i) = false := fun hq => by
        rw [if_neg hq] at hk
        refine ⟨by omega, ?_⟩
        unfold okS; rw [hv0, hk]; simp; omega
      by_cases hin : i + k < l.length
      · have hcell : w1.cell? ⟨b, o + (i + k), none⟩ = some (.int .u8 (byteL l (i + k))) := hb (i + k) hin
        iterate 2 (refine zc_seq ?_)
        refine zc_region ?_
        iterate 2 (refine zl_pureL rfl ?_)
        refine z_cmpB (r := true) want_none (by decide) rfl rfl rfl (iff_of_true rfl (by omega)) ?_
        refine zl_nil ?_
        refine zk_seq ?_
        refine zc_true rfl ?_
        refine zc_skip ?_
        refine zk_seq ?_
        refine zc_seq ?_
        refine zc_block ?_
        iterate 2 (refine zc_seq ?_)
        refine zc_region ?_
        iterate 2 (refine zl_pureL rfl ?_)
        refine z_add want_none (by decide) rfl rfl (by omega) (by omega) ?_
        refine zl_pureL rfl ?_
        refine z_len want_none (by decide) rfl ?_
        refine z_cmpB (r := false) want_none (by decide) rfl rfl rfl (iff_of_false Bool.false_ne_true (by omega)) ?_
        iterate 4 (refine zl_pureL rfl ?_)
        refine z_add (want_L rfl) (by decide) rfl rfl (by omega) (by omega) ?_
        refine z_ia (want_L rfl) (by decide) rfl rfl (by omega) (by omega) ?_
        try refine z_load1 (by first | exact want_none | exact want_L rfl) (by decide) rfl (cell_at hcell (by omega)) ?_
        by_cases hlo2 : lo ≤ byteL l (i + k)
        · refine zl_pureL rfl ?_
          refine z_cmpB (r := false) (want_L rfl) (by decide) rfl rfl rfl (iff_of_false Bool.false_ne_true (by omega)) ?_
          iterate 5 (refine zl_pureL rfl ?_)
          refine z_add (want_L rfl) (by decide) rfl rfl (by omega) (by omega) ?_
          refine z_ia (want_L rfl) (by decide) rfl rfl (by omega) (by omega) ?_
          try refine z_load1 (by first | exact want_none | exact want_L rfl) (by decide) rfl (cell_at hcell (by omega)) ?_
          by_cases hhi2 : byteL l (i + k) ≤ hi''
          · refine zl_pureL rfl ?_
            refine z_cmpB (r := false) (want_L rfl) (by decide) rfl rfl rfl (iff_of_false Bool.false_ne_true (by omega)) ?_
            refine zl_pureL rfl ?_
            refine zl_nil ?_
            refine zk_seq ?_
            refine zc_false rfl ?_
            refine zc_skip ?_
            refine zk_seq ?_
            refine zc_region ?_
            iterate 2 (refine zl_pureL rfl ?_)
            refine zl_nil ?_
            refine zk_norm_block ?_
            refine zk_seq ?_
            refine zc_region ?_
            refine zl_pureL rfl ?_
            refine z_add want_none (by decide) rfl rfl (by omega) (by omega) ?_
            refine zl_pureL rfl ?_
            refine zl_nil ?_
            refine zk_loop (k + 1, 128, 191) ⟨by omega, by omega, ?_⟩ (by simp; omega) rfl ⟨rfl, rfl, rfl, rfl, rfl, get_int rfl (by simp), trivial⟩
            rw [hk, if_pos ⟨hlt, by omega, hlo2, hhi2⟩]
          · obtain ⟨g1, g2⟩ := hbad (fun h => hhi2 h.2.2.2)
            rw [g1, g2]
            refine zl_pureL rfl ?_
            refine z_cmpB (r := true) (want_L rfl) (by decide) rfl rfl rfl (iff_of_true rfl (by omega)) ?_
            refine zl_pureL rfl ?_
            refine zl_nil ?_
            refine zk_seq ?_
            refine zc_true rfl ?_
            refine zc_seq ?_
            refine zc_region ?_
            iterate 3 (refine zl_pureL rfl ?_)
            refine zl_nil ?_
            refine zk_seq ?_
            refine zc_ret ?_
            refine zk_ret_then ?_
            refine zk_ret_block ?_
            iterate 2 (refine zk_ret_then ?_)
            refine zk_ret_block ?_
            refine zk_ret_then ?_
            exact zk_ret2 (.inr rfl) rfl rfl rfl ⟨rfl, rfl⟩
        · obtain ⟨g1, g2⟩ := hbad (fun h => hlo2 h.2.2.1)
          rw [g1, g2]
          refine zl_pureL rfl ?_
          refine z_cmpB (r := true) (want_L rfl) (by decide) rfl rfl rfl (iff_of_true rfl (by omega)) ?_
          iterate 5 (refine zl_pureL rfl ?_)
          iterate 3 (refine zl_skip rfl ?_)
          refine zl_pureL rfl ?_
          refine zl_skip rfl ?_
          refine zl_pureL rfl ?_
          refine zl_nil ?_
          refine zk_seq ?_
          refine zc_true rfl ?_
          refine zc_seq ?_
          refine zc_region ?_
          iterate 3 (refine zl_pureL rfl ?_)
          refine zl_nil ?_
          refine zk_seq ?_
          refine zc_ret ?_
          refine zk_ret_then ?_
          refine zk_ret_block ?_
          iterate 2 (refine zk_ret_then ?_)
          refine zk_ret_block ?_
          refine zk_ret_then ?_
          exact zk_ret2 (.inr rfl) rfl rfl rfl ⟨rfl, rfl⟩
      · obtain ⟨g1, g2⟩ := hbad (fun h => hin (by omega))
        rw [g1, g2]
        iterate 2 (refine zc_seq ?_)
        refine zc_region ?_
        iterate 2 (refine zl_pureL rfl ?_)
        refine z_cmpB (r := true) want_none (by decide) rfl rfl rfl (iff_of_true rfl (by omega)) ?_
        refine zl_nil ?_
        refine zk_seq ?_
        refine zc_true rfl ?_
        refine zc_skip ?_
        refine zk_seq ?_
        refine zc_seq ?_
        refine zc_block ?_
        iterate 2 (refine zc_seq ?_)
        refine zc_region ?_
        iterate 2 (refine zl_pureL rfl ?_)
        refine z_add want_none (by decide) rfl rfl (by omega) (by omega) ?_
        refine zl_pureL rfl ?_
        refine z_len want_none (by decide) rfl ?_
        refine z_cmpB (r := true) want_none (by decide) rfl rfl rfl (iff_of_true rfl (by omega)) ?_
        iterate 4 (refine zl_pureL rfl ?_)
        iterate 3 (refine zl_skip rfl ?_)
        refine zl_pureL rfl ?_
        refine zl_skip rfl ?_
        iterate 5 (refine zl_pureL rfl ?_)
        iterate 3 (refine zl_skip rfl ?_)
        refine zl_pureL rfl ?_
        refine zl_skip rfl ?_
        refine zl_pureL rfl ?_
        refine zl_nil ?_
        refine zk_seq ?_
        refine zc_true rfl ?_
        refine zc_seq ?_
        refine zc_region ?_
        iterate 3 (refine zl_pureL rfl ?_)
        refine zl_nil ?_
        refine zk_seq ?_
        refine zc_ret ?_
        refine zk_ret_then ?_
        refine zk_ret_block ?_
        iterate 2 (refine zk_ret_then ?_)
        refine zk_ret_block ?_
        refine zk_ret_then ?_
        exact zk_ret2 (.inr rfl) rfl rfl rfl ⟨rfl, rfl⟩
    · obtain rfl : k = n := by omega
      rw [Nat.sub_self] at hk
      have hk : sizeS (l.drop i) = k := hk
      have g2 : okS (l.drop i) = true := by unfold okS; rw [hv0, hk]; simp; omega
      rw [g2, hk, show max k 1 = k by omega]
      iterate 2 (refine zc_seq ?_)
      refine zc_region ?_
      iterate 2 (refine zl_pureL rfl ?_)
      refine z_cmpB (r := false) want_none (by decide) rfl rfl rfl (iff_of_false Bool.false_ne_true (by omega)) ?_
      refine zl_nil ?_
      refine zk_seq ?_
      refine zc_false rfl ?_
      refine zc_exit ?_
      iterate 2 (refine zk_exit_then ?_)
      refine zk_exit_block ?_
      refine zk_seq ?_
      refine zc_seq ?_
      refine zc_region ?_
      iterate 3 (refine zl_pureL rfl ?_)
      refine zl_nil ?_
      refine zk_seq ?_
      refine zc_ret ?_
      exact zk_ret2 (.inr rfl) rfl rfl rfl ⟨rfl, rfl⟩
set_option maxHeartbeats 2000000 in
theorem part_calls {w : World} {l : List UInt8} (hl : l.length ≤ 100000) (i : Nat) (hi : i < l.length) :
    Calls Try.prog 41 [.string (bs l), .int .i64 i].toArray w fun e w' => e = .returned (.tuple #[.int .i64 (sizeS (l.drop i)), .bool (okS (l.drop i))]) ∧ w' = w := by
  have hS : (l.drop i).length = l.length - i := by simp
  obtain ⟨n, lo, hi', hv⟩ : ∃ n lo hi, leadN (byteL l i) = (n, lo, hi) := ⟨_, _, _, rfl⟩
  have hle := leadN_le (byteL l i)
  have hv0 : leadN (byteL (l.drop i) 0) = (n, lo, hi') := by rw [byte_drop]; exact hv
  rw [hv] at hle
  obtain ⟨hn4, hlo, hhi⟩ := hle
  dsimp only at hn4 hlo hhi
  refine calls_zc (n := 58) (f := 41) (fn := Try.f41) Try.func41 rfl rfl (by simp) ?_
  refine zc_seq ?_
  refine zc_region ?_
  iterate 2 (refine zl_pureL rfl ?_)
  refine zl_nil ?_
  refine zk_seq ?_
  refine zc_seq ?_
  refine zc_region ?_
  iterate 2 (refine zl_pureL rfl ?_)
  refine z_idxN want_none (by decide) rfl rfl (by omega) ?_
  refine zl_call (by first | exact want_none | exact want_L rfl) rfl (by decide) rfl (leadR_calls' (byteL l i) n lo hi' hv) ?_
  rintro _ w1 ⟨rfl, rfl⟩
  refine ⟨_, rfl, ?_⟩
  by_cases h2 : n < 2
  · have e1 : sizeS (l.drop i) = n := by
      unfold sizeS; rw [hv0]; dsimp only
      split
      · omega
      · rw [show n - 1 = 0 by omega]; show 1 = n; omega
    have e2 : okS (l.drop i) = decide (n = 1) := by
      unfold okS; rw [e1, hv0]; dsimp only
      by_cases hq : n = 1
      · subst hq; rfl
      · rw [decide_eq_false hq, decide_eq_false]; omega
    rw [e1, e2]
    iterate 7 (refine zl_pureL rfl ?_)
    refine zl_nil ?_
    refine zk_seq ?_
    iterate 2 (refine zc_seq ?_)
    refine zc_region ?_
    refine zl_pureL rfl ?_
    refine z_cmpB (r := true) want_none (by decide) rfl rfl rfl (iff_of_true rfl (by omega)) ?_
    refine zl_nil ?_
    refine zk_seq ?_
    refine zc_true rfl ?_
    refine zc_seq ?_
    refine zc_region ?_
    iterate 2 (refine zl_pureL rfl ?_)
    refine z_cmpB (r := decide (n = 1)) (by first | exact want_none | exact want_L rfl) (by decide) rfl rfl rfl (by simp; omega) ?_
    iterate 2 (refine zl_pureL rfl ?_)
    refine zl_nil ?_
    refine zk_seq ?_
    refine zc_ret ?_
    refine zk_ret_then ?_
    exact zk_ret2 (.inr rfl) rfl rfl rfl ⟨rfl, rfl⟩
  · have e1 : sizeS (l.drop i) = contS (l.drop i) n (n - 1) 1 lo hi' := by unfold sizeS; rw [hv0]; rw [if_neg (by dsimp only; omega)]
    iterate 7 (refine zl_pureL rfl ?_)
    refine zl_nil ?_
    refine zk_seq ?_
    iterate 2 (refine zc_seq ?_)
    refine zc_region ?_
    refine zl_pureL rfl ?_
    refine z_cmpB (r := false) want_none (by decide) rfl rfl rfl (iff_of_false Bool.false_ne_true (by omega)) ?_
    refine zl_nil ?_
    refine zk_seq ?_
    refine zc_false rfl ?_
    refine zc_skip ?_
    refine zk_seq ?_
    refine zc_seq ?_
    refine zc_region ?_
    refine zl_pureL rfl ?_
    refine zl_nil ?_
    refine zk_seq ?_
    refine zc_seq ?_
    refine zc_block ?_
    refine zc_midB (fun u => u = w1) [(6, .int .i64 n), (9, .int .i64 (sizeS (l.drop i)))] ?_ ?_
    · refine zc_loop (ι := Nat × Nat × Nat) (fun q => [(0, .string (bs l)), (1, .int .i64 i), (6, .int .i64 n), (7, .int .u8 q.2.1), (8, .int .u8 q.2.2), (9, .int .i64 q.1)]) (fun _ => w1)
        (fun q => 1 ≤ q.1 ∧ q.1 ≤ n ∧ sizeS (l.drop i) = contS (l.drop i) n (n - q.1) q.1 q.2.1 q.2.2) (fun q => n - q.1) (1, lo, hi') ⟨Nat.le_refl _, by omega, e1⟩ ?_ ?_ ?_
      · rfl
      · exact ⟨rfl, rfl, rfl, rfl, rfl, rfl, trivial⟩
      rintro ⟨k, lo, hi''⟩ ⟨hk1, hkn, hk⟩
      dsimp only at hk1 hkn hk ⊢
      by_cases hlt : k < n
      · have hun : contS (l.drop i) n (n - k) k lo hi'' = if k < n ∧ k < (l.drop i).length ∧ lo ≤ byteL (l.drop i) k ∧ byteL (l.drop i) k ≤ hi'' then contS (l.drop i) n (n - (k + 1)) (k + 1) 128 191 else k := by
          rw [show n - k = (n - (k + 1)) + 1 by omega, contS]
        rw [hun, hS, byte_drop] at hk
        have hbad : ¬ (k < n ∧ k < l.length - i ∧ lo ≤ byteL l (i + k) ∧ byteL l (i + k) ≤ hi'') → sizeS (l.drop i) = k := fun hq => by
          rw [if_neg hq] at hk; exact hk
        by_cases hin : i + k < l.length
        · have hbyte : (l.getD (i + k) 0).toNat = byteL l (i + k) := rfl
          by_cases hlo2 : lo ≤ byteL l (i + k)
          · by_cases hhi2 : byteL l (i + k) ≤ hi''
            · iterate 2 (refine zc_seq ?_)
              refine zc_region ?_
              iterate 2 (refine zl_pureL rfl ?_)
              refine z_cmpB (r := true) want_none (by decide) rfl rfl rfl (iff_of_true rfl (by omega)) ?_
              iterate 3 (refine zl_pureL rfl ?_)
              refine z_add (want_L rfl) (by decide) rfl rfl (by omega) (by omega) ?_
              refine zl_pureL rfl ?_
              refine z_lenL (want_L rfl) (by decide) rfl ?_
              refine z_cmpB (r := true) (want_L rfl) (by decide) rfl rfl rfl (iff_of_true rfl (by omega)) ?_
              iterate 5 (refine zl_pureL rfl ?_)
              refine z_add (want_L rfl) (by decide) rfl rfl (by omega) (by omega) ?_
              refine z_idxN (want_L rfl) (by decide) rfl rfl (by omega) ?_
              refine zl_pureL rfl ?_
              refine z_cmpB (r := true) (want_L rfl) (by decide) rfl rfl rfl (iff_of_true rfl (by omega)) ?_
              iterate 5 (refine zl_pureL rfl ?_)
              refine z_add (want_L rfl) (by decide) rfl rfl (by omega) (by omega) ?_
              refine z_idxN (want_L rfl) (by decide) rfl rfl (by omega) ?_
              refine zl_pureL rfl ?_
              refine z_cmpB (r := true) (want_L rfl) (by decide) rfl rfl rfl (iff_of_true rfl (by omega)) ?_
              refine zl_pureL rfl ?_
              refine zl_nil ?_
              refine zk_seq ?_
              refine zc_true rfl ?_
              refine zc_skip ?_
              refine zk_seq ?_
              refine zc_block ?_
              refine zc_seq ?_
              refine zc_region ?_
              refine zl_pureL rfl ?_
              refine z_add want_none (by decide) rfl rfl (by omega) (by omega) ?_
              refine zl_pureL rfl ?_
              refine zl_nil ?_
              refine zk_seq ?_
              refine zc_region ?_
              iterate 2 (refine zl_pureL rfl ?_)
              refine zl_nil ?_
              refine zk_norm_block ?_
              refine zk_loop (k + 1, 128, 191) ⟨by omega, by omega, ?_⟩ (by simp; omega) rfl ⟨rfl, rfl, rfl, rfl, rfl, get_int rfl (by simp), trivial⟩
              rw [hk, if_pos ⟨hlt, by omega, hlo2, hhi2⟩]
            · have g1 := hbad (fun h => hhi2 h.2.2.2)
              iterate 2 (refine zc_seq ?_)
              refine zc_region ?_
              iterate 2 (refine zl_pureL rfl ?_)
              refine z_cmpB (r := true) want_none (by decide) rfl rfl rfl (iff_of_true rfl (by omega)) ?_
              iterate 3 (refine zl_pureL rfl ?_)
              refine z_add (want_L rfl) (by decide) rfl rfl (by omega) (by omega) ?_
              refine zl_pureL rfl ?_
              refine z_lenL (want_L rfl) (by decide) rfl ?_
              refine z_cmpB (r := true) (want_L rfl) (by decide) rfl rfl rfl (iff_of_true rfl (by omega)) ?_
              iterate 5 (refine zl_pureL rfl ?_)
              refine z_add (want_L rfl) (by decide) rfl rfl (by omega) (by omega) ?_
              refine z_idxN (want_L rfl) (by decide) rfl rfl (by omega) ?_
              refine zl_pureL rfl ?_
              refine z_cmpB (r := true) (want_L rfl) (by decide) rfl rfl rfl (iff_of_true rfl (by omega)) ?_
              iterate 5 (refine zl_pureL rfl ?_)
              refine z_add (want_L rfl) (by decide) rfl rfl (by omega) (by omega) ?_
              refine z_idxN (want_L rfl) (by decide) rfl rfl (by omega) ?_
              refine zl_pureL rfl ?_
              refine z_cmpB (r := false) (want_L rfl) (by decide) rfl rfl rfl (iff_of_false Bool.false_ne_true (by omega)) ?_
              refine zl_pureL rfl ?_
              refine zl_nil ?_
              refine zk_seq ?_
              refine zc_false rfl ?_
              refine zc_exit ?_
              iterate 2 (refine zk_exit_then ?_)
              refine zk_exit_block ?_
              exact zk_mid rfl ⟨rfl, get_int rfl (by omega), trivial⟩
          · have g1 := hbad (fun h => hlo2 h.2.2.1)
            iterate 2 (refine zc_seq ?_)
            refine zc_region ?_
            iterate 2 (refine zl_pureL rfl ?_)
            refine z_cmpB (r := true) want_none (by decide) rfl rfl rfl (iff_of_true rfl (by omega)) ?_
            iterate 3 (refine zl_pureL rfl ?_)
            refine z_add (want_L rfl) (by decide) rfl rfl (by omega) (by omega) ?_
            refine zl_pureL rfl ?_
            refine z_lenL (want_L rfl) (by decide) rfl ?_
            refine z_cmpB (r := true) (want_L rfl) (by decide) rfl rfl rfl (iff_of_true rfl (by omega)) ?_
            iterate 5 (refine zl_pureL rfl ?_)
            refine z_add (want_L rfl) (by decide) rfl rfl (by omega) (by omega) ?_
            refine z_idxN (want_L rfl) (by decide) rfl rfl (by omega) ?_
            refine zl_pureL rfl ?_
            refine z_cmpB (r := false) (want_L rfl) (by decide) rfl rfl rfl (iff_of_false Bool.false_ne_true (by omega)) ?_
            iterate 5 (refine zl_pureL rfl ?_)
            iterate 2 (refine zl_skip rfl ?_)
            refine zl_pureL rfl ?_
            refine zl_skip rfl ?_
            refine zl_pureL rfl ?_
            refine zl_nil ?_
            refine zk_seq ?_
            refine zc_false rfl ?_
            refine zc_exit ?_
            iterate 2 (refine zk_exit_then ?_)
            refine zk_exit_block ?_
            exact zk_mid rfl ⟨rfl, get_int rfl (by omega), trivial⟩
        · have g1 := hbad (fun h => hin (by omega))
          iterate 2 (refine zc_seq ?_)
          refine zc_region ?_
          iterate 2 (refine zl_pureL rfl ?_)
          refine z_cmpB (r := true) want_none (by decide) rfl rfl rfl (iff_of_true rfl (by omega)) ?_
          iterate 3 (refine zl_pureL rfl ?_)
          refine z_add (want_L rfl) (by decide) rfl rfl (by omega) (by omega) ?_
          refine zl_pureL rfl ?_
          refine z_lenL (want_L rfl) (by decide) rfl ?_
          refine z_cmpB (r := false) (want_L rfl) (by decide) rfl rfl rfl (iff_of_false Bool.false_ne_true (by omega)) ?_
          iterate 5 (refine zl_pureL rfl ?_)
          iterate 2 (refine zl_skip rfl ?_)
          refine zl_pureL rfl ?_
          refine zl_skip rfl ?_
          iterate 5 (refine zl_pureL rfl ?_)
          iterate 2 (refine zl_skip rfl ?_)
          refine zl_pureL rfl ?_
          refine zl_skip rfl ?_
          refine zl_pureL rfl ?_
          refine zl_nil ?_
          refine zk_seq ?_
          refine zc_false rfl ?_
          refine zc_exit ?_
          iterate 2 (refine zk_exit_then ?_)
          refine zk_exit_block ?_
          exact zk_mid rfl ⟨rfl, get_int rfl (by omega), trivial⟩
      · obtain rfl : k = n := by omega
        rw [Nat.sub_self] at hk
        have hk : sizeS (l.drop i) = k := hk
        iterate 2 (refine zc_seq ?_)
        refine zc_region ?_
        iterate 2 (refine zl_pureL rfl ?_)
        refine z_cmpB (r := false) want_none (by decide) rfl rfl rfl (iff_of_false Bool.false_ne_true (by omega)) ?_
        iterate 3 (refine zl_pureL rfl ?_)
        refine zl_skip rfl ?_
        refine zl_pureL rfl ?_
        iterate 2 (refine zl_skip rfl ?_)
        iterate 5 (refine zl_pureL rfl ?_)
        iterate 2 (refine zl_skip rfl ?_)
        refine zl_pureL rfl ?_
        refine zl_skip rfl ?_
        iterate 5 (refine zl_pureL rfl ?_)
        iterate 2 (refine zl_skip rfl ?_)
        refine zl_pureL rfl ?_
        refine zl_skip rfl ?_
        refine zl_pureL rfl ?_
        refine zl_nil ?_
        refine zk_seq ?_
        refine zc_false rfl ?_
        refine zc_exit ?_
        iterate 2 (refine zk_exit_then ?_)
        refine zk_exit_block ?_
        exact zk_mid rfl ⟨rfl, get_int rfl (by omega), trivial⟩
    rintro u rfl
    refine zc_seq ?_
    refine zc_region ?_
    iterate 3 (refine zl_pureL rfl ?_)
    refine z_cmpB (r := okS (l.drop i)) (by first | exact want_none | exact want_L rfl) (by decide) rfl rfl rfl (by unfold okS; rw [hv0]; simp; omega) ?_
    iterate 2 (refine zl_pureL rfl ?_)
    refine zl_nil ?_
    refine zk_seq ?_
    refine zc_ret ?_
    exact zk_ret2 (.inr rfl) rfl rfl rfl ⟨rfl, rfl⟩
end Go.Proofs.Ytmhbdalemgmfcaa.T
