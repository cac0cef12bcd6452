import Derived.Test.YtmhbdalemgmfcaaTSign
import Derived.Test.YtmhbdalemgmfcaaTBld
/- Decode, as the program and as the document has it. -/
namespace Go.Proofs.Ytmhbdalemgmfcaa.T
open Go Go.Z Go.Proofs
set_option linter.unusedVariables false
def lost : List UInt8 := [239, 191, 189]
def bom : List UInt8 := [239, 187, 191]
def pieceS (s : List UInt8) : List UInt8 := if okS s then s.take (sizeS s) else lost
def decS : Nat → List UInt8 → List UInt8
  | 0, _ => []
  | f + 1, s => if s = [] then [] else pieceS s ++ decS f (s.drop (max (sizeS s) 1))
def dec (s : List UInt8) : List UInt8 := decS s.length s
theorem decS_nil : ∀ f, decS f [] = []
  | 0 => rfl
  | f + 1 => by simp [decS]
theorem decS_fuel : ∀ (f g : Nat) (s : List UInt8), s.length ≤ f → s.length ≤ g → decS f s = decS g s
  | 0, g, s, hf, hg => by
    have : s = [] := List.eq_nil_of_length_eq_zero (by omega)
    subst this; simp [decS_nil]
  | f + 1, 0, s, hf, hg => by
    have : s = [] := List.eq_nil_of_length_eq_zero (by omega)
    subst this; simp [decS_nil]
  | f + 1, g + 1, s, hf, hg => by
    unfold decS
    split
    · rfl
    · rw [decS_fuel f g _ (by rw [List.length_drop]; omega) (by rw [List.length_drop]; omega)]
theorem dec_cons (s : List UInt8) (h : s ≠ []) : dec s = pieceS s ++ dec (s.drop (max (sizeS s) 1)) := by
  have hl : 1 ≤ s.length := by cases s <;> simp_all
  unfold dec
  conv => lhs; rw [show s.length = (s.length - 1) + 1 by omega]; unfold decS
  rw [if_neg h, decS_fuel (s.length - 1) _ _ (by rw [List.length_drop]; omega) (Nat.le_refl _)]
theorem dec_nil : dec [] = [] := rfl
theorem piece_len (s : List UInt8) (h : s ≠ []) : (pieceS s).length ≤ 3 * max (sizeS s) 1 := by
  have := sizeS_le s h
  unfold pieceS
  split
  · rw [List.length_take]; omega
  · simp [lost]; omega
def stripN (l : List UInt8) : List UInt8 := if l.take 3 = bom then l.drop 3 else l
def decode (l : List UInt8) : List UInt8 := dec (stripN l)
theorem drop_ne {l : List UInt8} {i : Nat} (h : i < l.length) : l.drop i ≠ [] := by
  intro he; have := congrArg List.length he; rw [List.length_drop] at this; simp at this; omega
theorem take3 (l : List UInt8) : l.take 3 = bom ↔ 3 ≤ l.length ∧ byteL l 0 = 239 ∧ byteL l 1 = 187 ∧ byteL l 2 = 191 := by
  have key : ∀ b : UInt8, ∀ k : Nat, k < 256 → (b.toNat = k ↔ b = UInt8.ofNat k) := fun b k hk => by
    constructor
    · intro h; rw [← h]; simp
    · intro h; rw [h]; simp; omega
  match l with
  | [] => simp [bom, byteL]
  | [a] => simp [bom]
  | [a, b] => simp [bom]
  | a :: b :: c :: r =>
    simp only [List.take_succ_cons, List.take_zero, bom, List.cons.injEq, and_true, byteL, List.getD_cons_zero, List.getD_cons_succ, List.length_cons]
    rw [key a 239 (by omega), key b 187 (by omega), key c 191 (by omega)]
    simp
theorem RB.drop3 {w : World} {v : Value} {l : List UInt8} (h : RB w v l) (h3 : 3 ≤ l.length) : ∃ A c, v = .slice A l.length c ∧ l.length ≤ c ∧ RB w (.slice (cutA A c 3 1) (l.length - 3) (c - 3)) (l.drop 3) := by
  obtain ⟨A, c, rfl, hc⟩ := h.form
  have h1 := h.cut (a := 3) (k := l.length - 3) (by omega)
  rw [List.take_of_length_le (by rw [List.length_drop]; omega)] at h1
  exact ⟨A, c, rfl, hc, h1⟩
set_option maxHeartbeats 8000000 in
theorem decode_calls {w : World} {v : Value} {l : List UInt8} (h : RB w v l) (hl : l.length ≤ 100000) :
    Calls Try.prog 20 [v].toArray w fun e w' => e = .returned (.string (bs (decode l))) ∧ Chg w w' No := by
  refine calls_zc (n := 53) (f := 20) (fn := Try.f20) Try.func20 rfl rfl (by simp) ?_
  refine zc_seq ?_
  refine zc_region ?_
  refine zl_pureL rfl ?_
  refine zl_nil ?_
  refine zk_seq ?_
  obtain ⟨v', hv'⟩ : ∃ v', v' = (if l.take 3 = bom then (match v with | .slice A m c => .slice (cutA A c 3 1) (m - 3) (c - 3) | x => x) else v) := ⟨_, rfl⟩
  have hR : RB w v' (stripN l) := by
    unfold stripN
    by_cases hb : l.take 3 = bom
    · rw [if_pos hb] at hv' ⊢
      obtain ⟨A, c, rfl, _, h1⟩ := RB.drop3 h ((take3 l).1 hb).1
      rw [hv']; exact h1
    · rw [if_neg hb] at hv' ⊢
      rw [hv']; exact h
  refine zc_mid (fun u => u = w) [(0, v')] ?_ ?_
  · by_cases hb : l.take 3 = bom
    · obtain ⟨h3, b0, b1, b2⟩ := (take3 l).1 hb
      obtain ⟨b, o, c, rfl, hc, hcell⟩ := h.at_ 0 (by omega)
      rw [if_pos hb] at hv'
      have c0 : w.cell? ⟨b, o + 0, none⟩ = some (.int .u8 239) := by rw [hcell 0 (by omega)]; show some (Value.int .u8 (byteL l 0 : Nat)) = _; rw [b0]; rfl
      have c1 : w.cell? ⟨b, o + 1, none⟩ = some (.int .u8 187) := by rw [hcell 1 (by omega)]; show some (Value.int .u8 (byteL l 1 : Nat)) = _; rw [b1]; rfl
      have c2 : w.cell? ⟨b, o + 2, none⟩ = some (.int .u8 191) := by rw [hcell 2 (by omega)]; show some (Value.int .u8 (byteL l 2 : Nat)) = _; rw [b2]; rfl
      refine zc_seq ?_
      refine zc_region ?_
      refine zl_pureL rfl ?_
      refine z_len want_none (by decide) rfl ?_
      refine z_cmpB (r := true) want_none (by decide) rfl rfl rfl (iff_of_true rfl (by omega)) ?_
      iterate 2 (refine zl_pureL rfl ?_)
      refine z_ia (want_L rfl) (by decide) rfl rfl (by omega) (by omega) ?_
      refine z_load1 (want_L rfl) (by decide) rfl (by assumption) ?_
      refine z_cmpB (r := true) (want_L rfl) (by decide) rfl rfl rfl (iff_of_true rfl (by omega)) ?_
      iterate 3 (refine zl_pureL rfl ?_)
      refine z_ia (want_L rfl) (by decide) rfl rfl (by omega) (by omega) ?_
      refine z_load1 (want_L rfl) (by decide) rfl (by assumption) ?_
      refine z_cmpB (r := true) (want_L rfl) (by decide) rfl rfl rfl (iff_of_true rfl (by omega)) ?_
      iterate 3 (refine zl_pureL rfl ?_)
      refine z_ia (want_L rfl) (by decide) rfl rfl (by omega) (by omega) ?_
      refine z_load1 (want_L rfl) (by decide) rfl (by assumption) ?_
      refine z_cmpB (r := true) (want_L rfl) (by decide) rfl rfl rfl (iff_of_true rfl (by omega)) ?_
      refine zl_pureL rfl ?_
      refine zl_nil ?_
      refine zk_seq ?_
      refine zc_true rfl ?_
      refine zc_region ?_
      refine zl_pureL rfl ?_
      try refine z_load1 (by first | exact want_none | exact want_L rfl) (by decide) rfl (cell_at c0 (by omega)) ?_
      skip
      try refine z_load1 (by first | exact want_none | exact want_L rfl) (by decide) rfl (cell_at c1 (by omega)) ?_
      skip
      try refine z_load1 (by first | exact want_none | exact want_L rfl) (by decide) rfl (cell_at c2 (by omega)) ?_
      skip
      refine z_cutAB 3 l.length (by first | exact want_none | exact want_L rfl) (by decide) rfl rfl rfl rfl rfl h3 hc ?_
      refine zl_pureL rfl ?_
      refine zl_nil ?_
      exact zk_mid rfl ⟨by rw [hv']; rfl, trivial⟩
    · rw [if_neg hb] at hv'
      subst hv'
      by_cases h3 : 3 ≤ l.length
      · obtain ⟨b, o, c, rfl, hc, hcell⟩ := h.at_ 0 (by omega)
        have c0 : w.cell? ⟨b, o + 0, none⟩ = some (.int .u8 (byteL l 0 : Nat)) := hcell 0 (by omega)
        have c1 : w.cell? ⟨b, o + 1, none⟩ = some (.int .u8 (byteL l 1 : Nat)) := hcell 1 (by omega)
        have c2 : w.cell? ⟨b, o + 2, none⟩ = some (.int .u8 (byteL l 2 : Nat)) := hcell 2 (by omega)
        refine zc_seq ?_
        refine zc_region ?_
        refine zl_pureL rfl ?_
        refine z_len want_none (by decide) rfl ?_
        refine z_cmpB (r := true) want_none (by decide) rfl rfl rfl (iff_of_true rfl (by omega)) ?_
        iterate 2 (refine zl_pureL rfl ?_)
        refine z_ia (want_L rfl) (by decide) rfl rfl (by omega) (by omega) ?_
        refine z_load1 (want_L rfl) (by decide) rfl (by assumption) ?_
        try refine z_load1 (by first | exact want_none | exact want_L rfl) (by decide) rfl (cell_at c0 (by omega)) ?_
        by_cases b0 : byteL l 0 = 239
        · refine z_cmpB (r := true) (want_L rfl) (by decide) rfl rfl rfl (iff_of_true rfl (by omega)) ?_
          iterate 3 (refine zl_pureL rfl ?_)
          refine z_ia (want_L rfl) (by decide) rfl rfl (by omega) (by omega) ?_
          refine z_load1 (want_L rfl) (by decide) rfl (by assumption) ?_
          try refine z_load1 (by first | exact want_none | exact want_L rfl) (by decide) rfl (cell_at c1 (by omega)) ?_
          by_cases b1 : byteL l 1 = 187
          · refine z_cmpB (r := true) (want_L rfl) (by decide) rfl rfl rfl (iff_of_true rfl (by omega)) ?_
            iterate 3 (refine zl_pureL rfl ?_)
            refine z_ia (want_L rfl) (by decide) rfl rfl (by omega) (by omega) ?_
            refine z_load1 (want_L rfl) (by decide) rfl (by assumption) ?_
            try refine z_load1 (by first | exact want_none | exact want_L rfl) (by decide) rfl (cell_at c2 (by omega)) ?_
            have b2 : byteL l 2 ≠ 191 := fun b2 => hb ((take3 l).2 ⟨h3, b0, b1, b2⟩)
            refine z_cmpB (r := false) (want_L rfl) (by decide) rfl rfl rfl (iff_of_false Bool.false_ne_true (by omega)) ?_
            refine zl_pureL rfl ?_
            refine zl_nil ?_
            refine zk_seq ?_
            refine zc_false rfl ?_
            refine zc_skip ?_
            exact zk_mid rfl ⟨rfl, trivial⟩
          · refine z_cmpB (r := false) (want_L rfl) (by decide) rfl rfl rfl (iff_of_false Bool.false_ne_true (by omega)) ?_
            iterate 3 (refine zl_pureL rfl ?_)
            iterate 3 (refine zl_skip rfl ?_)
            refine zl_pureL rfl ?_
            refine zl_nil ?_
            refine zk_seq ?_
            refine zc_false rfl ?_
            refine zc_skip ?_
            exact zk_mid rfl ⟨rfl, trivial⟩
        · refine z_cmpB (r := false) (want_L rfl) (by decide) rfl rfl rfl (iff_of_false Bool.false_ne_true (by omega)) ?_
          iterate 3 (refine zl_pureL rfl ?_)
          iterate 3 (refine zl_skip rfl ?_)
          iterate 3 (refine zl_pureL rfl ?_)
          iterate 3 (refine zl_skip rfl ?_)
          refine zl_pureL rfl ?_
          refine zl_nil ?_
          refine zk_seq ?_
          refine zc_false rfl ?_
          refine zc_skip ?_
          exact zk_mid rfl ⟨rfl, trivial⟩
      · obtain ⟨A, c, rfl, hc⟩ := h.form
        refine zc_seq ?_
        refine zc_region ?_
        refine zl_pureL rfl ?_
        refine z_len want_none (by decide) rfl ?_
        refine z_cmpB (r := false) want_none (by decide) rfl rfl rfl (iff_of_false Bool.false_ne_true (by omega)) ?_
        iterate 2 (refine zl_pureL rfl ?_)
        iterate 3 (refine zl_skip rfl ?_)
        iterate 3 (refine zl_pureL rfl ?_)
        iterate 3 (refine zl_skip rfl ?_)
        iterate 3 (refine zl_pureL rfl ?_)
        iterate 3 (refine zl_skip rfl ?_)
        refine zl_pureL rfl ?_
        refine zl_nil ?_
        refine zk_seq ?_
        refine zc_false rfl ?_
        refine zc_skip ?_
        exact zk_mid rfl ⟨rfl, trivial⟩
  rintro u rfl
  have hsl : (stripN l).length ≤ 100000 := by unfold stripN; split; exact Nat.le_trans (by simp) hl; exact hl
  unfold decode
  generalize stripN l = s at hR hsl ⊢
  clear h hv'
  obtain ⟨A, c, rfl, hc⟩ := hR.form
  refine zc_seq ?_
  refine zc_region ?_
  refine z_alloc (by first | exact want_none | exact want_L rfl) (by decide) (fun w1 b1 hN1 => ?_)
  have hB1 : Bd w1 b1 b1 [] := Bd.fresh (Nat.le_refl _) hN1.blk
  have hbs : u.heap.size ≤ b1 := Nat.le_of_eq hN1.at_.symm
  refine zl_nil ?_
  refine zk_seq ?_
  iterate 2 (refine zc_seq ?_)
  refine zc_region ?_
  refine zl_pureL rfl ?_
  refine zl_nil ?_
  refine zk_seq ?_
  refine zc_block ?_
  refine zc_loopW (ι := Nat × List UInt8) (fun q u => [(0, .slice A s.length c), (3, .pointer (some ⟨b1, 0, none⟩)), (4, .int .i64 q.1)])
    (fun q u' => q.1 ≤ s.length ∧ Chg u u' No ∧ b1 ≤ u'.heap.size ∧ Bd u' b1 b1 q.2 ∧ q.2.length ≤ 3 * q.1 ∧ q.2 ++ dec (s.drop q.1) = dec s) (fun q u => s.length - q.1) (0, []) ⟨Nat.zero_le _, hN1.chg, by have := hN1.size; have := hN1.at_; omega, hB1, Nat.le_refl _, rfl⟩ ?_ ?_
  · exact ⟨rfl, rfl, rfl, trivial⟩
  rintro ⟨i, out⟩ u2 ⟨hi, hC, hsz, hB, hol, hd⟩
  dsimp only at hi hC hB hol hd ⊢
  by_cases hlt : i < s.length
  · have hss := sizeS_le (s.drop i) (drop_ne hlt)
    rw [List.length_drop] at hss
    have hdc := dec_cons (s.drop i) (drop_ne hlt)
    rw [List.drop_drop] at hdc
    have hpl := piece_len (s.drop i) (drop_ne hlt)
    iterate 2 (refine zc_seq ?_)
    refine zc_region ?_
    iterate 2 (refine zl_pureL rfl ?_)
    refine z_len want_none (by decide) rfl ?_
    refine z_cmpB (r := true) want_none (by decide) rfl rfl rfl (iff_of_true rfl (by omega)) ?_
    refine zl_nil ?_
    refine zk_seq ?_
    refine zc_true rfl ?_
    refine zc_skip ?_
    refine zk_seq ?_
    refine zc_block ?_
    refine zc_seq ?_
    refine zc_region ?_
    iterate 2 (refine zl_pureL rfl ?_)
    refine zl_call (by first | exact want_none | exact want_L rfl) rfl (by decide) rfl (sign_calls (hR.no hC) hsl i hlt) ?_
    rintro _ u3 ⟨rfl, rfl⟩
    refine ⟨_, rfl, ?_⟩
    unfold pieceS at hdc hpl
    cases hok : okS (s.drop i)
    · rw [hok] at hdc hpl
      iterate 5 (refine zl_pureL rfl ?_)
      refine zl_nil ?_
      refine zk_seq ?_
      iterate 2 (refine zc_seq ?_)
      refine zc_region ?_
      refine zl_pureL rfl ?_
      refine zl_nil ?_
      refine zk_seq ?_
      refine zc_false rfl ?_
      refine zc_region ?_
      refine zl_call (by first | exact want_none | exact want_L rfl) rfl (by decide) rfl (ws_calls lost hB (by simp [lost]; omega) hsz) ?_
      rintro _ u4 ⟨rfl, hB4, hC4⟩
      refine ⟨_, rfl, ?_⟩
      refine zl_nil ?_
      refine zk_seq ?_
      refine zc_region ?_
      iterate 2 (refine zl_pureL rfl ?_)
      refine z_add want_none (by decide) rfl rfl (by omega) (by omega) ?_
      refine zl_pureL rfl ?_
      refine zl_nil ?_
      refine zk_norm_block ?_
      refine zk_loopW (i + max (sizeS (s.drop i)) 1, out ++ lost) ⟨by omega, Chg.lift hC hbs hC4, Nat.le_trans hsz hC4.size, hB4, by simp only [List.length_append]; simp [lost] at hpl ⊢; omega, ?_⟩ (by simp; omega) ⟨rfl, rfl, get_int rfl (by simp), trivial⟩
      rw [List.append_assoc, ← hd, hdc]; rfl
    · rw [hok] at hdc hpl
      have h1 := okS_size hok
      have hmx : max (sizeS (s.drop i)) 1 = sizeS (s.drop i) := by omega
      rw [hmx] at hdc hpl ⊢
      have htl : ((s.drop i).take (sizeS (s.drop i))).length = sizeS (s.drop i) := by rw [List.length_take, List.length_drop]; omega
      iterate 5 (refine zl_pureL rfl ?_)
      refine zl_nil ?_
      refine zk_seq ?_
      iterate 2 (refine zc_seq ?_)
      refine zc_region ?_
      refine zl_pureL rfl ?_
      refine zl_nil ?_
      refine zk_seq ?_
      refine zc_true rfl ?_
      refine zc_region ?_
      iterate 4 (refine zl_pureL rfl ?_)
      refine z_add want_none (by decide) rfl rfl (by omega) (by omega) ?_
      refine z_cutAB i (i + sizeS (s.drop i)) (by first | exact want_none | exact want_L rfl) (by decide) rfl rfl rfl rfl (by omega) (by omega) (by omega) ?_
      have hp := hR.cut (a := i) (k := sizeS (s.drop i)) (by omega)
      rw [show i + sizeS (s.drop i) - i = sizeS (s.drop i) by omega]
      refine zl_call (by first | exact want_none | exact want_L rfl) rfl (by decide) rfl (wr_calls hB (by omega) hsz hp (by omega) hC hbs) ?_
      rintro _ u4 ⟨rfl, hB4, hC4⟩
      refine ⟨_, rfl, ?_⟩
      refine zl_nil ?_
      refine zk_seq ?_
      refine zc_region ?_
      iterate 2 (refine zl_pureL rfl ?_)
      refine z_add want_none (by decide) rfl rfl (by omega) (by omega) ?_
      refine zl_pureL rfl ?_
      refine zl_nil ?_
      refine zk_norm_block ?_
      refine zk_loopW (i + sizeS (s.drop i), out ++ (s.drop i).take (sizeS (s.drop i))) ⟨by omega, Chg.lift hC hbs hC4, Nat.le_trans hsz hC4.size, hB4, by simp only [List.length_append, htl]; omega, ?_⟩ (by simp; omega) ⟨rfl, rfl, get_int rfl (by simp), trivial⟩
      rw [List.append_assoc, ← hd, hdc]; rfl
  · obtain rfl : i = s.length := by omega
    rw [List.drop_length, dec_nil, List.append_nil] at hd
    iterate 2 (refine zc_seq ?_)
    refine zc_region ?_
    iterate 2 (refine zl_pureL rfl ?_)
    refine z_len want_none (by decide) rfl ?_
    refine z_cmpB (r := false) want_none (by decide) rfl rfl rfl (iff_of_false Bool.false_ne_true (by omega)) ?_
    refine zl_nil ?_
    refine zk_seq ?_
    refine zc_false rfl ?_
    refine zc_exit ?_
    iterate 2 (refine zk_exit_then ?_)
    refine zk_exit_block ?_
    refine zk_seq ?_
    refine zc_seq ?_
    refine zc_region ?_
    refine zl_call (by first | exact want_none | exact want_L rfl) rfl (by decide) rfl (str_calls hB hsz) ?_
    rintro _ u3 ⟨rfl, hC3⟩
    refine ⟨_, rfl, ?_⟩
    rw [hd]
    refine zl_pureL rfl ?_
    refine zl_nil ?_
    refine zk_seq ?_
    refine zc_ret ?_
    exact zk_ret1 (.inr rfl) rfl rfl ⟨rfl, Chg.lift hC hbs hC3⟩
set_option maxHeartbeats 8000000 in
theorem decodeR_calls {w : World} {l : List UInt8} (hl : l.length ≤ 100000) :
    Calls Try.prog 29 [.string (bs l)].toArray w fun e w' => e = .returned (.string (bs (decode l))) ∧ w' = w := by
  refine calls_zc (n := 43) (f := 29) (fn := Try.f29) Try.func29 rfl rfl (by simp) ?_
  refine zc_seq ?_
  refine zc_region ?_
  refine zl_pureL rfl ?_
  refine zl_nil ?_
  refine zk_seq ?_
  refine zc_mid (fun u => u = w) [(0, .string (bs (stripN l)))] ?_ ?_
  · by_cases h3 : 3 ≤ l.length
    · refine zc_seq ?_
      refine zc_region ?_
      refine zl_pureL rfl ?_
      refine z_lenL want_none (by decide) rfl ?_
      refine z_cmpB (r := true) want_none (by decide) rfl rfl rfl (iff_of_true rfl (by omega)) ?_
      iterate 2 (refine zl_pureL rfl ?_)
      refine z_cutN 0 3 (by first | exact want_none | exact want_L rfl) (by decide) rfl rfl rfl rfl rfl (by omega) h3 ?_
      skip
      refine z_eqLB (q := decide (l.take 3 = bom)) (by first | exact want_none | exact want_L rfl) (by decide) rfl rfl (decide_eq_true_iff.trans Iff.rfl) ?_
      unfold stripN
      by_cases hb : l.take 3 = bom
      · rw [decide_eq_true hb, if_pos hb]
        refine zl_pureL rfl ?_
        refine zl_nil ?_
        refine zk_seq ?_
        refine zc_true rfl ?_
        refine zc_region ?_
        refine zl_pureL rfl ?_
        refine z_cutN 3 l.length (by first | exact want_none | exact want_L rfl) (by decide) rfl rfl rfl rfl rfl h3 (Nat.le_refl _) ?_
        refine zl_pureL rfl ?_
        refine zl_nil ?_
        refine zk_mid rfl ⟨get_eq rfl ?_, trivial⟩
        rw [List.take_of_length_le (by rw [List.length_drop]; omega)]
      · rw [decide_eq_false hb, if_neg hb]
        refine zl_pureL rfl ?_
        refine zl_nil ?_
        refine zk_seq ?_
        refine zc_false rfl ?_
        refine zc_skip ?_
        exact zk_mid rfl ⟨rfl, trivial⟩
    · have hb : ¬ l.take 3 = bom := fun hb => h3 ((take3 l).1 hb).1
      unfold stripN
      rw [if_neg hb]
      refine zc_seq ?_
      refine zc_region ?_
      refine zl_pureL rfl ?_
      refine z_lenL want_none (by decide) rfl ?_
      refine z_cmpB (r := false) want_none (by decide) rfl rfl rfl (iff_of_false Bool.false_ne_true (by omega)) ?_
      iterate 2 (refine zl_pureL rfl ?_)
      iterate 2 (refine zl_skip rfl ?_)
      refine zl_pureL rfl ?_
      refine zl_nil ?_
      refine zk_seq ?_
      refine zc_false rfl ?_
      refine zc_skip ?_
      exact zk_mid rfl ⟨rfl, trivial⟩
  rintro u rfl
  have hsl : (stripN l).length ≤ 100000 := by unfold stripN; split; exact Nat.le_trans (by simp) hl; exact hl
  unfold decode
  generalize stripN l = s at hsl ⊢
  refine zc_seq ?_
  refine zc_region ?_
  refine zl_pureL rfl ?_
  refine zl_nil ?_
  refine zk_seq ?_
  refine zc_seq ?_
  refine zc_region ?_
  refine zl_pureL rfl ?_
  refine zl_nil ?_
  refine zk_seq ?_
  refine zc_seq ?_
  refine zc_block ?_
  refine zc_loop (ι := Nat × List UInt8) (fun q => [(0, .string (bs s)), (3, .string (bs q.2)), (4, .int .i64 q.1)]) (fun _ => u)
    (fun q => q.1 ≤ s.length ∧ q.2.length ≤ 3 * q.1 ∧ q.2 ++ dec (s.drop q.1) = dec s) (fun q => s.length - q.1) (0, []) ⟨Nat.zero_le _, Nat.le_refl _, rfl⟩ ?_ ?_ ?_
  · rfl
  · exact ⟨rfl, rfl, rfl, trivial⟩
  rintro ⟨i, out⟩ ⟨hi, hol, hd⟩
  dsimp only at hi hol hd ⊢
  by_cases hlt : i < s.length
  · have hss := sizeS_le (s.drop i) (drop_ne hlt)
    rw [List.length_drop] at hss
    have hdc := dec_cons (s.drop i) (drop_ne hlt)
    rw [List.drop_drop] at hdc
    have hpl := piece_len (s.drop i) (drop_ne hlt)
    iterate 2 (refine zc_seq ?_)
    refine zc_region ?_
    iterate 2 (refine zl_pureL rfl ?_)
    refine z_lenL want_none (by decide) rfl ?_
    refine z_cmpB (r := true) want_none (by decide) rfl rfl rfl (iff_of_true rfl (by omega)) ?_
    refine zl_nil ?_
    refine zk_seq ?_
    refine zc_true rfl ?_
    refine zc_skip ?_
    refine zk_seq ?_
    refine zc_block ?_
    refine zc_seq ?_
    refine zc_region ?_
    iterate 2 (refine zl_pureL rfl ?_)
    refine zl_call (by first | exact want_none | exact want_L rfl) rfl (by decide) rfl (part_calls hsl i hlt) ?_
    rintro _ u3 ⟨rfl, rfl⟩
    refine ⟨_, rfl, ?_⟩
    unfold pieceS at hdc hpl
    cases hok : okS (s.drop i)
    · rw [hok] at hdc hpl
      iterate 5 (refine zl_pureL rfl ?_)
      refine zl_nil ?_
      refine zk_seq ?_
      iterate 2 (refine zc_seq ?_)
      refine zc_region ?_
      refine zl_pureL rfl ?_
      refine zl_nil ?_
      refine zk_seq ?_
      refine zc_false rfl ?_
      refine zc_region ?_
      refine zl_pureL rfl ?_
      refine z_catL (r := lost) (by first | exact want_none | exact want_L rfl) (by decide) rfl rfl (by simp [lost]; omega) ?_
      refine zl_pureL rfl ?_
      refine zl_nil ?_
      refine zk_seq ?_
      refine zc_region ?_
      iterate 2 (refine zl_pureL rfl ?_)
      refine zl_run (by first | exact want_none | exact want_L rfl) rfl (by decide) (r_max rfl rfl (c := ((max (sizeS (s.drop i)) 1 : Nat) : Int)) (by split <;> omega)) ?_
      refine z_add want_none (by decide) rfl rfl (by omega) (by omega) ?_
      refine zl_pureL rfl ?_
      refine zl_nil ?_
      refine zk_norm_block ?_
      refine zk_loop (i + max (sizeS (s.drop i)) 1, out ++ lost) ⟨by omega, by simp only [List.length_append]; simp [lost] at hpl ⊢; omega, ?_⟩ (by simp; omega) rfl ⟨rfl, rfl, get_int rfl (by simp), trivial⟩
      rw [List.append_assoc, ← hd, hdc]; rfl
    · rw [hok] at hdc hpl
      have h1 := okS_size hok
      have htl : ((s.drop i).take (sizeS (s.drop i))).length = sizeS (s.drop i) := by rw [List.length_take, List.length_drop]; omega
      iterate 5 (refine zl_pureL rfl ?_)
      refine zl_nil ?_
      refine zk_seq ?_
      iterate 2 (refine zc_seq ?_)
      refine zc_region ?_
      refine zl_pureL rfl ?_
      refine zl_nil ?_
      refine zk_seq ?_
      refine zc_true rfl ?_
      refine zc_region ?_
      iterate 5 (refine zl_pureL rfl ?_)
      refine z_add want_none (by decide) rfl rfl (by omega) (by omega) ?_
      refine z_cutN i (i + sizeS (s.drop i)) (by first | exact want_none | exact want_L rfl) (by decide) rfl rfl rfl rfl (by omega) (by omega) (by omega) ?_
      rw [show i + sizeS (s.drop i) - i = sizeS (s.drop i) by omega]
      refine z_catL want_none (by decide) rfl rfl (by omega) ?_
      refine zl_pureL rfl ?_
      refine zl_nil ?_
      refine zk_seq ?_
      refine zc_region ?_
      iterate 2 (refine zl_pureL rfl ?_)
      refine zl_run (by first | exact want_none | exact want_L rfl) rfl (by decide) (r_max rfl rfl (c := ((max (sizeS (s.drop i)) 1 : Nat) : Int)) (by split <;> omega)) ?_
      refine z_add want_none (by decide) rfl rfl (by omega) (by omega) ?_
      refine zl_pureL rfl ?_
      refine zl_nil ?_
      refine zk_norm_block ?_
      refine zk_loop (i + max (sizeS (s.drop i)) 1, out ++ (s.drop i).take (sizeS (s.drop i))) ⟨by omega, by simp only [List.length_append, htl]; omega, ?_⟩ (by simp; omega) rfl ⟨rfl, rfl, get_int rfl (by simp), trivial⟩
      rw [List.append_assoc, ← hd, hdc]; rfl
  · obtain rfl : i = s.length := by omega
    rw [List.drop_length, dec_nil, List.append_nil] at hd
    subst hd
    iterate 2 (refine zc_seq ?_)
    refine zc_region ?_
    iterate 2 (refine zl_pureL rfl ?_)
    refine z_lenL want_none (by decide) rfl ?_
    refine z_cmpB (r := false) want_none (by decide) rfl rfl rfl (iff_of_false Bool.false_ne_true (by omega)) ?_
    refine zl_nil ?_
    refine zk_seq ?_
    refine zc_false rfl ?_
    refine zc_exit ?_
    iterate 2 (refine zk_exit_then ?_)
    refine zk_exit_block ?_
    refine zk_seq ?_
    refine zc_seq ?_
    refine zc_region ?_
    iterate 2 (refine zl_pureL rfl ?_)
    refine zl_nil ?_
    refine zk_seq ?_
    refine zc_ret ?_
    exact zk_ret1 (.inr rfl) rfl rfl ⟨rfl, rfl⟩
end Go.Proofs.Ytmhbdalemgmfcaa.T
