import Derived.Test.YtmhbdalemgmfcaaTDec
/- Lines, as the program and as the document has it; where a sign stands. -/
namespace Go.Proofs.Ytmhbdalemgmfcaa.T
open Go Go.Z Go.Proofs
set_option linter.unusedVariables false
def linesN : List UInt8 → List UInt8
  | [] => []
  | c :: r => if c = 13 then (if r.head? = some 10 then linesN r else 10 :: linesN r) else c :: linesN r
theorem drop_cons0 (l : List UInt8) (i : Nat) (h : i < l.length) : l.drop i = l.getD i 0 :: l.drop (i + 1) := by
  rw [List.drop_eq_getElem_cons h, List.getD_eq_getElem?_getD, List.getElem?_eq_getElem h]; rfl
def lineP (l : List UInt8) (i : Nat) : List UInt8 := if byteL l i ≠ 13 then [l.getD i 0] else if i + 1 < l.length ∧ byteL l (i + 1) = 10 then [] else [10]
theorem byte_eq (l : List UInt8) (i : Nat) (k : Nat) (hk : k < 256) : byteL l i = k ↔ l.getD i 0 = UInt8.ofNat k := by
  unfold byteL
  constructor
  · intro h; rw [← h]; simp
  · intro h; rw [h]; simp; omega
theorem linesN_cons (c : UInt8) (r : List UInt8) : linesN (c :: r) = if c = 13 then (if r.head? = some 10 then linesN r else 10 :: linesN r) else c :: linesN r := rfl
theorem lines_cons (l : List UInt8) (i : Nat) (h : i < l.length) : linesN (l.drop i) = lineP l i ++ linesN (l.drop (i + 1)) := by
  rw [drop_cons0 l i h, linesN_cons]
  unfold lineP
  have e13 : byteL l i = 13 ↔ l.getD i 0 = 13 := byte_eq l i 13 (by decide)
  by_cases h1 : byteL l i = 13
  · rw [if_pos (e13.1 h1), if_neg (show ¬ (byteL l i ≠ 13) from fun h => h h1)]
    by_cases h2 : i + 1 < l.length
    · have e10 : byteL l (i + 1) = 10 ↔ l.getD (i + 1) 0 = 10 := byte_eq l (i + 1) 10 (by decide)
      have hh : (l.drop (i + 1)).head? = some (l.getD (i + 1) 0) := by rw [drop_cons0 l (i + 1) h2]; rfl
      rw [hh]
      by_cases h3 : byteL l (i + 1) = 10
      · rw [if_pos (by rw [e10.1 h3]), if_pos ⟨h2, h3⟩]; rfl
      · rw [if_neg (fun h => h3 (e10.2 (Option.some.inj h))), if_neg (fun h => h3 h.2)]; rfl
    · have hh : (l.drop (i + 1)).head? = none := by rw [List.drop_eq_nil_of_le (by omega)]; rfl
      rw [hh, if_neg (by simp), if_neg (fun h => h2 h.1)]; rfl
  · rw [if_neg (fun h => h1 (e13.2 h)), if_pos h1]; rfl
theorem lineP_len (l : List UInt8) (i : Nat) : (lineP l i).length ≤ 1 := by
  unfold lineP; split
  · simp
  · split <;> simp
theorem lines_no (l : List UInt8) (h : 13 ∉ l) : linesN l = l := by
  induction l with
  | nil => rfl
  | cons c r ih =>
    unfold linesN
    rw [if_neg (fun e => h (by rw [e]; exact List.mem_cons_self ..)), ih (fun e => h (List.mem_cons_of_mem _ e))]
theorem no_lines : ∀ l : List UInt8, 13 ∉ linesN l
  | [] => by simp [linesN]
  | c :: r => by
    have ih := no_lines r
    unfold linesN
    split
    · split
      · exact ih
      · simp [ih]
    · rename_i h; simp [ih]; exact fun e => h e.symm
theorem lines_len : ∀ l : List UInt8, (linesN l).length ≤ l.length
  | [] => Nat.le_refl _
  | c :: r => by
    have ih := lines_len r
    unfold linesN
    split
    · split
      · simp; omega
      · simp; omega
    · simp; omega
theorem idx13 : ∀ l : List UInt8, Lib.indexByte l 13 < 0 → 13 ∉ l
  | [], _ => by simp
  | c :: r, h => by
    have hge := Lib.indexByte_ge r 13
    unfold Lib.indexByte at h
    by_cases hc : c = 13
    · subst hc; simp at h
    · have hb : (c == 13) = false := by simpa using hc
      rw [hb] at h
      simp only [Bool.false_eq_true, if_false] at h
      have : Lib.indexByte r 13 < 0 := by
        by_cases hq : (Lib.indexByte r 13 == -1) = true
        · have : Lib.indexByte r 13 = -1 := by simpa using hq
          omega
        · rw [if_neg hq] at h
          have : Lib.indexByte r 13 ≠ -1 := by simpa using hq
          omega
      simp only [List.mem_cons, not_or]
      exact ⟨fun e => hc e.symm, idx13 r this⟩
theorem idxB_calls {w : World} (l : List UInt8) : Calls Try.prog 33 [.string (bs l), .int .u8 13].toArray w fun e w' => e = .returned (.int .i64 (Lib.indexByte l 13)) ∧ w' = w := by
  refine (Try.strings_IndexByte (bs l) 13 w).mono ?_
  rintro e w' ⟨rfl, rfl⟩
  have e1 : (bs l).data.toList = l := rfl
  have e2 : (13 : Int).toNat.toUInt8 = (13 : UInt8) := by decide
  rw [e1, e2]
  exact ⟨rfl, rfl⟩
set_option maxHeartbeats 1000000 in
theorem lines_calls {w : World} {l : List UInt8} (hl : l.length ≤ 100000) : Calls Try.prog 14 [.string (bs l)].toArray w fun e w' => e = .returned (.string (bs (linesN l))) ∧ Chg w w' No := by
  refine calls_zc (n := 39) (f := 14) (fn := Try.f14) Try.func14 rfl rfl (by simp) ?_
  refine zc_seq ?_
  refine zc_region ?_
  refine zl_pureL rfl ?_
  refine zl_nil ?_
  refine zk_seq ?_
  iterate 2 (refine zc_seq ?_)
  refine zc_region ?_
  refine zl_pureL rfl ?_
  refine zl_call (by first | exact want_none | exact want_L rfl) rfl (by decide) rfl (idxB_calls l) ?_
  rintro _ w0 ⟨rfl, rfl⟩
  refine ⟨_, rfl, ?_⟩
  by_cases hno : Lib.indexByte l 13 < 0
  · rw [lines_no l (idx13 l hno)]
    refine z_cmpB (r := true) want_none (by decide) rfl rfl rfl (iff_of_true rfl (by omega)) ?_
    refine zl_nil ?_
    refine zk_seq ?_
    refine zc_true rfl ?_
    refine zc_seq ?_
    refine zc_region ?_
    iterate 2 (refine zl_pureL rfl ?_)
    refine zl_nil ?_
    refine zk_seq ?_
    refine zc_ret ?_
    refine zk_ret_then ?_
    exact zk_ret1 (.inr rfl) rfl rfl ⟨rfl, Chg.refl _ _⟩
  refine z_cmpB (r := false) want_none (by decide) rfl rfl rfl (iff_of_false Bool.false_ne_true (by omega)) ?_
  refine zl_nil ?_
  refine zk_seq ?_
  refine zc_false rfl ?_
  refine zc_skip ?_
  refine zk_seq ?_
  refine zc_seq ?_
  refine zc_region ?_
  refine z_alloc (by first | exact want_none | exact want_L rfl) (by decide) (fun w1 b1 hN1 => ?_)
  have hB1 : Bd w1 b1 b1 [] := Bd.fresh (Nat.le_refl _) hN1.blk
  have hbs : w0.heap.size ≤ b1 := Nat.le_of_eq hN1.at_.symm
  refine zl_nil ?_
  refine zk_seq ?_
  iterate 2 (refine zc_seq ?_)
  refine zc_region ?_
  refine zl_pureL rfl ?_
  refine zl_nil ?_
  refine zk_seq ?_
  refine zc_block ?_
  refine zc_loopW (ι := Nat × List UInt8) (fun q u => [(0, .string (bs l)), (3, .pointer (some ⟨b1, 0, none⟩)), (4, .int .i64 q.1)])
    (fun q u' => q.1 ≤ l.length ∧ Chg w0 u' No ∧ b1 ≤ u'.heap.size ∧ Bd u' b1 b1 q.2 ∧ q.2.length ≤ q.1 ∧ q.2 ++ linesN (l.drop q.1) = linesN l) (fun q u => l.length - q.1) (0, []) ⟨Nat.zero_le _, hN1.chg, by have := hN1.size; have := hN1.at_; omega, hB1, Nat.le_refl _, rfl⟩ ?_ ?_
  · exact ⟨rfl, rfl, rfl, trivial⟩
  rintro ⟨i, out⟩ u2 ⟨hi, hC, hsz, hB, hol, hd⟩
  dsimp only at hi hC hB hol hd ⊢
  by_cases hlt : i < l.length
  · have hlc := lines_cons l i hlt
    have hpl := lineP_len l i
    have hbi : (l.getD i 0).toNat = byteL l i := rfl
    unfold lineP at hlc hpl
    by_cases h13 : byteL l i = 13
    · rw [if_neg (by simp [h13])] at hlc hpl
      by_cases h2 : i + 1 < l.length
      · have hbi2 : (l.getD (i + 1) 0).toNat = byteL l (i + 1) := rfl
        by_cases h10 : byteL l (i + 1) = 10
        · rw [if_pos ⟨h2, h10⟩] at hlc hpl
          iterate 2 (refine zc_seq ?_)
          refine zc_region ?_
          iterate 2 (refine zl_pureL rfl ?_)
          refine z_lenL want_none (by decide) rfl ?_
          refine z_cmpB (r := true) want_none (by decide) rfl rfl rfl (iff_of_true rfl (by omega)) ?_
          refine zl_nil ?_
          refine zk_seq ?_
          refine zc_true rfl ?_
          refine zc_skip ?_
          refine zk_seq ?_
          refine zc_seq ?_
          iterate 2 (refine zc_block ?_)
          refine zc_seq ?_
          refine zc_region ?_
          iterate 2 (refine zl_pureL rfl ?_)
          refine z_idxN want_none (by decide) rfl rfl (by omega) ?_
          refine z_cmpB (r := false) want_none (by decide) rfl rfl rfl (iff_of_false Bool.false_ne_true (by omega)) ?_
          refine zl_pureL rfl ?_
          refine zl_nil ?_
          refine zk_seq ?_
          refine zc_false rfl ?_
          refine zc_seq ?_
          refine zc_region ?_
          refine zl_pureL rfl ?_
          refine z_add want_none (by decide) rfl rfl (by omega) (by omega) ?_
          refine zl_pureL rfl ?_
          refine z_lenL want_none (by decide) rfl ?_
          refine z_cmpB (r := true) want_none (by decide) rfl rfl rfl (iff_of_true rfl (by omega)) ?_
          iterate 3 (refine zl_pureL rfl ?_)
          refine z_add (want_L rfl) (by decide) rfl rfl (by omega) (by omega) ?_
          refine z_idxP (want_L rfl) (by decide) rfl rfl (by omega) ?_
          refine z_cmpB (r := true) (want_L rfl) (by decide) rfl rfl rfl (iff_of_true rfl (by omega)) ?_
          iterate 2 (refine zl_pureL rfl ?_)
          refine zl_nil ?_
          refine zk_seq ?_
          refine zc_true rfl ?_
          refine zc_skip ?_
          iterate 2 (refine zk_norm_block ?_)
          refine zk_seq ?_
          refine zc_region ?_
          refine zl_pureL rfl ?_
          refine z_add want_none (by decide) rfl rfl (by omega) (by omega) ?_
          refine zl_pureL rfl ?_
          refine zl_nil ?_
          refine zk_loopW (i + 1, out) ⟨by omega, hC, hsz, hB, by dsimp only; omega, ?_⟩ (by simp; omega) ⟨rfl, rfl, get_int rfl (by simp), trivial⟩
          rw [← hd, hlc]; rfl
        · rw [if_neg (fun h => h10 h.2)] at hlc hpl
          iterate 2 (refine zc_seq ?_)
          refine zc_region ?_
          iterate 2 (refine zl_pureL rfl ?_)
          refine z_lenL want_none (by decide) rfl ?_
          refine z_cmpB (r := true) want_none (by decide) rfl rfl rfl (iff_of_true rfl (by omega)) ?_
          refine zl_nil ?_
          refine zk_seq ?_
          refine zc_true rfl ?_
          refine zc_skip ?_
          refine zk_seq ?_
          refine zc_seq ?_
          iterate 2 (refine zc_block ?_)
          refine zc_seq ?_
          refine zc_region ?_
          iterate 2 (refine zl_pureL rfl ?_)
          refine z_idxN want_none (by decide) rfl rfl (by omega) ?_
          refine z_cmpB (r := false) want_none (by decide) rfl rfl rfl (iff_of_false Bool.false_ne_true (by omega)) ?_
          refine zl_pureL rfl ?_
          refine zl_nil ?_
          refine zk_seq ?_
          refine zc_false rfl ?_
          refine zc_seq ?_
          refine zc_region ?_
          refine zl_pureL rfl ?_
          refine z_add want_none (by decide) rfl rfl (by omega) (by omega) ?_
          refine zl_pureL rfl ?_
          refine z_lenL want_none (by decide) rfl ?_
          refine z_cmpB (r := true) want_none (by decide) rfl rfl rfl (iff_of_true rfl (by omega)) ?_
          iterate 3 (refine zl_pureL rfl ?_)
          refine z_add (want_L rfl) (by decide) rfl rfl (by omega) (by omega) ?_
          refine z_idxP (want_L rfl) (by decide) rfl rfl (by omega) ?_
          refine z_cmpB (r := false) (want_L rfl) (by decide) rfl rfl rfl (iff_of_false Bool.false_ne_true (by omega)) ?_
          iterate 2 (refine zl_pureL rfl ?_)
          refine zl_nil ?_
          refine zk_seq ?_
          refine zc_false rfl ?_
          refine zc_region ?_
          refine zl_call (by first | exact want_none | exact want_L rfl) rfl (by decide) rfl (wb_calls 10 hB (by omega) hsz) ?_
          rintro _ u4 ⟨rfl, hB4, hC4⟩
          refine ⟨_, rfl, ?_⟩
          refine zl_nil ?_
          iterate 2 (refine zk_norm_block ?_)
          refine zk_seq ?_
          refine zc_region ?_
          refine zl_pureL rfl ?_
          refine z_add want_none (by decide) rfl rfl (by omega) (by omega) ?_
          refine zl_pureL rfl ?_
          refine zl_nil ?_
          refine zk_loopW (i + 1, out ++ [10]) ⟨by omega, Chg.lift hC hbs hC4, Nat.le_trans hsz hC4.size, hB4, by simp; omega, ?_⟩ (by simp; omega) ⟨rfl, rfl, get_int rfl (by simp), trivial⟩
          rw [List.append_assoc, ← hd, hlc]
      · rw [if_neg (fun h => h2 h.1)] at hlc hpl
        iterate 2 (refine zc_seq ?_)
        refine zc_region ?_
        iterate 2 (refine zl_pureL rfl ?_)
        refine z_lenL want_none (by decide) rfl ?_
        refine z_cmpB (r := true) want_none (by decide) rfl rfl rfl (iff_of_true rfl (by omega)) ?_
        refine zl_nil ?_
        refine zk_seq ?_
        refine zc_true rfl ?_
        refine zc_skip ?_
        refine zk_seq ?_
        refine zc_seq ?_
        iterate 2 (refine zc_block ?_)
        refine zc_seq ?_
        refine zc_region ?_
        iterate 2 (refine zl_pureL rfl ?_)
        refine z_idxN want_none (by decide) rfl rfl (by omega) ?_
        refine z_cmpB (r := false) want_none (by decide) rfl rfl rfl (iff_of_false Bool.false_ne_true (by omega)) ?_
        refine zl_pureL rfl ?_
        refine zl_nil ?_
        refine zk_seq ?_
        refine zc_false rfl ?_
        refine zc_seq ?_
        refine zc_region ?_
        refine zl_pureL rfl ?_
        refine z_add want_none (by decide) rfl rfl (by omega) (by omega) ?_
        refine zl_pureL rfl ?_
        refine z_lenL want_none (by decide) rfl ?_
        refine z_cmpB (r := false) want_none (by decide) rfl rfl rfl (iff_of_false Bool.false_ne_true (by omega)) ?_
        iterate 3 (refine zl_pureL rfl ?_)
        iterate 3 (refine zl_skip rfl ?_)
        iterate 2 (refine zl_pureL rfl ?_)
        refine zl_nil ?_
        refine zk_seq ?_
        refine zc_false rfl ?_
        refine zc_region ?_
        refine zl_call (by first | exact want_none | exact want_L rfl) rfl (by decide) rfl (wb_calls 10 hB (by omega) hsz) ?_
        rintro _ u4 ⟨rfl, hB4, hC4⟩
        refine ⟨_, rfl, ?_⟩
        refine zl_nil ?_
        iterate 2 (refine zk_norm_block ?_)
        refine zk_seq ?_
        refine zc_region ?_
        refine zl_pureL rfl ?_
        refine z_add want_none (by decide) rfl rfl (by omega) (by omega) ?_
        refine zl_pureL rfl ?_
        refine zl_nil ?_
        refine zk_loopW (i + 1, out ++ [10]) ⟨by omega, Chg.lift hC hbs hC4, Nat.le_trans hsz hC4.size, hB4, by simp; omega, ?_⟩ (by simp; omega) ⟨rfl, rfl, get_int rfl (by simp), trivial⟩
        rw [List.append_assoc, ← hd, hlc]
    · rw [if_pos h13] at hlc hpl
      iterate 2 (refine zc_seq ?_)
      refine zc_region ?_
      iterate 2 (refine zl_pureL rfl ?_)
      refine z_lenL want_none (by decide) rfl ?_
      refine z_cmpB (r := true) want_none (by decide) rfl rfl rfl (iff_of_true rfl (by omega)) ?_
      refine zl_nil ?_
      refine zk_seq ?_
      refine zc_true rfl ?_
      refine zc_skip ?_
      refine zk_seq ?_
      refine zc_seq ?_
      iterate 2 (refine zc_block ?_)
      refine zc_seq ?_
      refine zc_region ?_
      iterate 2 (refine zl_pureL rfl ?_)
      refine z_idxN want_none (by decide) rfl rfl (by omega) ?_
      refine z_cmpB (r := true) want_none (by decide) rfl rfl rfl (iff_of_true rfl (by omega)) ?_
      refine zl_pureL rfl ?_
      refine zl_nil ?_
      refine zk_seq ?_
      refine zc_true rfl ?_
      refine zc_region ?_
      iterate 2 (refine zl_pureL rfl ?_)
      refine z_idxN want_none (by decide) rfl rfl (by omega) ?_
      refine zl_call (by first | exact want_none | exact want_L rfl) rfl (by decide) rfl (wb_calls (l.getD i 0) hB (by omega) hsz) ?_
      rintro _ u4 ⟨rfl, hB4, hC4⟩
      refine ⟨_, rfl, ?_⟩
      refine zl_nil ?_
      iterate 2 (refine zk_norm_block ?_)
      refine zk_seq ?_
      refine zc_region ?_
      refine zl_pureL rfl ?_
      refine z_add want_none (by decide) rfl rfl (by omega) (by omega) ?_
      refine zl_pureL rfl ?_
      refine zl_nil ?_
      refine zk_loopW (i + 1, out ++ [l.getD i 0]) ⟨by omega, Chg.lift hC hbs hC4, Nat.le_trans hsz hC4.size, hB4, by simp; omega, ?_⟩ (by simp; omega) ⟨rfl, rfl, get_int rfl (by simp), trivial⟩
      rw [List.append_assoc, ← hd, hlc]
  · obtain rfl : i = l.length := by omega
    rw [List.drop_length] at hd
    have hd : out = linesN l := by rw [← hd]; simp [linesN]
    subst hd
    iterate 2 (refine zc_seq ?_)
    refine zc_region ?_
    iterate 2 (refine zl_pureL rfl ?_)
    refine z_lenL want_none (by decide) rfl ?_
    refine z_cmpB (r := false) want_none (by decide) rfl rfl rfl (iff_of_false Bool.false_ne_true (by omega)) ?_
    refine zl_nil ?_
    refine zk_seq ?_
    refine zc_false rfl ?_
    refine zc_exit ?_
    iterate 2 (refine zk_exit_then ?_)
    refine zk_exit_block ?_
    refine zk_seq ?_
    refine zc_seq ?_
    refine zc_region ?_
    refine zl_call (by first | exact want_none | exact want_L rfl) rfl (by decide) rfl (str_calls hB hsz) ?_
    rintro _ u3 ⟨rfl, hC3⟩
    refine ⟨_, rfl, ?_⟩
    refine zl_pureL rfl ?_
    refine zl_nil ?_
    refine zk_seq ?_
    refine zc_ret ?_
    exact zk_ret1 (.inr rfl) rfl rfl ⟨rfl, Chg.lift hC hbs hC3⟩
set_option maxHeartbeats 1000000 in
theorem linesR_calls {w : World} {l : List UInt8} (hl : l.length ≤ 100000) : Calls Try.prog 15 [.string (bs l)].toArray w fun e w' => e = .returned (.string (bs (linesN l))) ∧ w' = w := by
  refine calls_zc (n := 39) (f := 15) (fn := Try.f15) Try.func15 rfl rfl (by simp) ?_
  refine zc_seq ?_
  refine zc_region ?_
  refine zl_pureL rfl ?_
  refine zl_nil ?_
  refine zk_seq ?_
  refine zc_seq ?_
  refine zc_region ?_
  refine zl_pureL rfl ?_
  refine zl_nil ?_
  refine zk_seq ?_
  iterate 2 (refine zc_seq ?_)
  refine zc_region ?_
  refine zl_pureL rfl ?_
  refine zl_nil ?_
  refine zk_seq ?_
  refine zc_block ?_
  refine zc_loop (ι := Nat × List UInt8) (fun q => [(0, .string (bs l)), (3, .string (bs q.2)), (4, .int .i64 q.1)]) (fun _ => w)
    (fun q => q.1 ≤ l.length ∧ q.2.length ≤ q.1 ∧ q.2 ++ linesN (l.drop q.1) = linesN l) (fun q => l.length - q.1) (0, []) ⟨Nat.zero_le _, Nat.le_refl _, rfl⟩ ?_ ?_ ?_
  · rfl
  · exact ⟨rfl, rfl, rfl, trivial⟩
  rintro ⟨i, out⟩ ⟨hi, hol, hd⟩
  dsimp only at hi hol hd ⊢
  by_cases hlt : i < l.length
  · have hlc := lines_cons l i hlt
    have hbi : (l.getD i 0).toNat = byteL l i := rfl
    unfold lineP at hlc
    by_cases h13 : byteL l i = 13
    · rw [if_neg (by simp [h13])] at hlc
      by_cases h2 : i + 1 < l.length
      · have hbi2 : (l.getD (i + 1) 0).toNat = byteL l (i + 1) := rfl
        by_cases h10 : byteL l (i + 1) = 10
        · rw [if_pos ⟨h2, h10⟩] at hlc
          iterate 2 (refine zc_seq ?_)
          refine zc_region ?_
          iterate 2 (refine zl_pureL rfl ?_)
          refine z_lenL want_none (by decide) rfl ?_
          refine z_cmpB (r := true) want_none (by decide) rfl rfl rfl (iff_of_true rfl (by omega)) ?_
          refine zl_nil ?_
          refine zk_seq ?_
          refine zc_true rfl ?_
          refine zc_skip ?_
          refine zk_seq ?_
          refine zc_seq ?_
          iterate 2 (refine zc_block ?_)
          refine zc_seq ?_
          refine zc_region ?_
          iterate 2 (refine zl_pureL rfl ?_)
          refine z_idxN want_none (by decide) rfl rfl (by omega) ?_
          refine z_cmpB (r := false) want_none (by decide) rfl rfl rfl (iff_of_false Bool.false_ne_true (by omega)) ?_
          refine zl_pureL rfl ?_
          refine zl_nil ?_
          refine zk_seq ?_
          refine zc_false rfl ?_
          refine zc_seq ?_
          refine zc_region ?_
          refine zl_pureL rfl ?_
          refine z_add want_none (by decide) rfl rfl (by omega) (by omega) ?_
          refine zl_pureL rfl ?_
          refine z_lenL want_none (by decide) rfl ?_
          refine z_cmpB (r := false) want_none (by decide) rfl rfl rfl (iff_of_false Bool.false_ne_true (by omega)) ?_
          iterate 3 (refine zl_pureL rfl ?_)
          refine z_add (want_L rfl) (by decide) rfl rfl (by omega) (by omega) ?_
          refine z_idxP (want_L rfl) (by decide) rfl rfl (by omega) ?_
          refine z_cmpB (r := false) (want_L rfl) (by decide) rfl rfl rfl (iff_of_false Bool.false_ne_true (by omega)) ?_
          iterate 2 (refine zl_pureL rfl ?_)
          refine zl_nil ?_
          refine zk_seq ?_
          refine zc_false rfl ?_
          refine zc_skip ?_
          iterate 2 (refine zk_norm_block ?_)
          refine zk_seq ?_
          refine zc_region ?_
          refine zl_pureL rfl ?_
          refine z_add want_none (by decide) rfl rfl (by omega) (by omega) ?_
          refine zl_pureL rfl ?_
          refine zl_nil ?_
          refine zk_loop (i + 1, out) ⟨by omega, by dsimp only; omega, ?_⟩ (by simp; omega) rfl ⟨rfl, rfl, get_int rfl (by simp), trivial⟩
          rw [← hd, hlc]; rfl
        · rw [if_neg (fun h => h10 h.2)] at hlc
          iterate 2 (refine zc_seq ?_)
          refine zc_region ?_
          iterate 2 (refine zl_pureL rfl ?_)
          refine z_lenL want_none (by decide) rfl ?_
          refine z_cmpB (r := true) want_none (by decide) rfl rfl rfl (iff_of_true rfl (by omega)) ?_
          refine zl_nil ?_
          refine zk_seq ?_
          refine zc_true rfl ?_
          refine zc_skip ?_
          refine zk_seq ?_
          refine zc_seq ?_
          iterate 2 (refine zc_block ?_)
          refine zc_seq ?_
          refine zc_region ?_
          iterate 2 (refine zl_pureL rfl ?_)
          refine z_idxN want_none (by decide) rfl rfl (by omega) ?_
          refine z_cmpB (r := false) want_none (by decide) rfl rfl rfl (iff_of_false Bool.false_ne_true (by omega)) ?_
          refine zl_pureL rfl ?_
          refine zl_nil ?_
          refine zk_seq ?_
          refine zc_false rfl ?_
          refine zc_seq ?_
          refine zc_region ?_
          refine zl_pureL rfl ?_
          refine z_add want_none (by decide) rfl rfl (by omega) (by omega) ?_
          refine zl_pureL rfl ?_
          refine z_lenL want_none (by decide) rfl ?_
          refine z_cmpB (r := false) want_none (by decide) rfl rfl rfl (iff_of_false Bool.false_ne_true (by omega)) ?_
          iterate 3 (refine zl_pureL rfl ?_)
          refine z_add (want_L rfl) (by decide) rfl rfl (by omega) (by omega) ?_
          refine z_idxP (want_L rfl) (by decide) rfl rfl (by omega) ?_
          refine z_cmpB (r := true) (want_L rfl) (by decide) rfl rfl rfl (iff_of_true rfl (by omega)) ?_
          iterate 2 (refine zl_pureL rfl ?_)
          refine zl_nil ?_
          refine zk_seq ?_
          refine zc_true rfl ?_
          refine zc_region ?_
          refine zl_pureL rfl ?_
          refine z_catL (r := [10]) (by first | exact want_none | exact want_L rfl) (by decide) rfl rfl (by simp; omega) ?_
          refine zl_pureL rfl ?_
          refine zl_nil ?_
          iterate 2 (refine zk_norm_block ?_)
          refine zk_seq ?_
          refine zc_region ?_
          refine zl_pureL rfl ?_
          refine z_add want_none (by decide) rfl rfl (by omega) (by omega) ?_
          refine zl_pureL rfl ?_
          refine zl_nil ?_
          refine zk_loop (i + 1, out ++ [10]) ⟨by omega, by simp; omega, ?_⟩ (by simp; omega) rfl ⟨rfl, rfl, get_int rfl (by simp), trivial⟩
          rw [List.append_assoc, ← hd, hlc]
      · rw [if_neg (fun h => h2 h.1)] at hlc
        iterate 2 (refine zc_seq ?_)
        refine zc_region ?_
        iterate 2 (refine zl_pureL rfl ?_)
        refine z_lenL want_none (by decide) rfl ?_
        refine z_cmpB (r := true) want_none (by decide) rfl rfl rfl (iff_of_true rfl (by omega)) ?_
        refine zl_nil ?_
        refine zk_seq ?_
        refine zc_true rfl ?_
        refine zc_skip ?_
        refine zk_seq ?_
        refine zc_seq ?_
        iterate 2 (refine zc_block ?_)
        refine zc_seq ?_
        refine zc_region ?_
        iterate 2 (refine zl_pureL rfl ?_)
        refine z_idxN want_none (by decide) rfl rfl (by omega) ?_
        refine z_cmpB (r := false) want_none (by decide) rfl rfl rfl (iff_of_false Bool.false_ne_true (by omega)) ?_
        refine zl_pureL rfl ?_
        refine zl_nil ?_
        refine zk_seq ?_
        refine zc_false rfl ?_
        refine zc_seq ?_
        refine zc_region ?_
        refine zl_pureL rfl ?_
        refine z_add want_none (by decide) rfl rfl (by omega) (by omega) ?_
        refine zl_pureL rfl ?_
        refine z_lenL want_none (by decide) rfl ?_
        refine z_cmpB (r := true) want_none (by decide) rfl rfl rfl (iff_of_true rfl (by omega)) ?_
        iterate 3 (refine zl_pureL rfl ?_)
        iterate 3 (refine zl_skip rfl ?_)
        iterate 2 (refine zl_pureL rfl ?_)
        refine zl_nil ?_
        refine zk_seq ?_
        refine zc_true rfl ?_
        refine zc_region ?_
        refine zl_pureL rfl ?_
        refine z_catL (r := [10]) (by first | exact want_none | exact want_L rfl) (by decide) rfl rfl (by simp; omega) ?_
        refine zl_pureL rfl ?_
        refine zl_nil ?_
        iterate 2 (refine zk_norm_block ?_)
        refine zk_seq ?_
        refine zc_region ?_
        refine zl_pureL rfl ?_
        refine z_add want_none (by decide) rfl rfl (by omega) (by omega) ?_
        refine zl_pureL rfl ?_
        refine zl_nil ?_
        refine zk_loop (i + 1, out ++ [10]) ⟨by omega, by simp; omega, ?_⟩ (by simp; omega) rfl ⟨rfl, rfl, get_int rfl (by simp), trivial⟩
        rw [List.append_assoc, ← hd, hlc]
    · rw [if_pos h13] at hlc
      iterate 2 (refine zc_seq ?_)
      refine zc_region ?_
      iterate 2 (refine zl_pureL rfl ?_)
      refine z_lenL want_none (by decide) rfl ?_
      refine z_cmpB (r := true) want_none (by decide) rfl rfl rfl (iff_of_true rfl (by omega)) ?_
      refine zl_nil ?_
      refine zk_seq ?_
      refine zc_true rfl ?_
      refine zc_skip ?_
      refine zk_seq ?_
      refine zc_seq ?_
      iterate 2 (refine zc_block ?_)
      refine zc_seq ?_
      refine zc_region ?_
      iterate 2 (refine zl_pureL rfl ?_)
      refine z_idxN want_none (by decide) rfl rfl (by omega) ?_
      refine z_cmpB (r := true) want_none (by decide) rfl rfl rfl (iff_of_true rfl (by omega)) ?_
      refine zl_pureL rfl ?_
      refine zl_nil ?_
      refine zk_seq ?_
      refine zc_true rfl ?_
      refine zc_region ?_
      iterate 4 (refine zl_pureL rfl ?_)
      refine z_add want_none (by decide) rfl rfl (by omega) (by omega) ?_
      refine z_cutN i (i + 1) (by first | exact want_none | exact want_L rfl) (by decide) rfl rfl rfl rfl (by omega) (by omega) (by omega) ?_
      rw [show (l.drop i).take (i + 1 - i) = [l.getD i 0] by rw [drop_cons0 l i hlt, show i + 1 - i = 1 by omega]; rfl]
      refine z_catL (r := [l.getD i 0]) (by first | exact want_none | exact want_L rfl) (by decide) rfl rfl (by simp; omega) ?_
      refine zl_pureL rfl ?_
      refine zl_nil ?_
      iterate 2 (refine zk_norm_block ?_)
      refine zk_seq ?_
      refine zc_region ?_
      refine zl_pureL rfl ?_
      refine z_add want_none (by decide) rfl rfl (by omega) (by omega) ?_
      refine zl_pureL rfl ?_
      refine zl_nil ?_
      refine zk_loop (i + 1, out ++ [l.getD i 0]) ⟨by omega, by simp; omega, ?_⟩ (by simp; omega) rfl ⟨rfl, rfl, get_int rfl (by simp), trivial⟩
      rw [List.append_assoc, ← hd, hlc]
  · obtain rfl : i = l.length := by omega
    rw [List.drop_length] at hd
    have hd : out = linesN l := by rw [← hd]; simp [linesN]
    subst hd
    iterate 2 (refine zc_seq ?_)
    refine zc_region ?_
    iterate 2 (refine zl_pureL rfl ?_)
    refine z_lenL want_none (by decide) rfl ?_
    refine z_cmpB (r := false) want_none (by decide) rfl rfl rfl (iff_of_false Bool.false_ne_true (by omega)) ?_
    refine zl_nil ?_
    refine zk_seq ?_
    refine zc_false rfl ?_
    refine zc_exit ?_
    iterate 2 (refine zk_exit_then ?_)
    refine zk_exit_block ?_
    refine zk_seq ?_
    refine zc_seq ?_
    refine zc_region ?_
    iterate 2 (refine zl_pureL rfl ?_)
    refine zl_nil ?_
    refine zk_seq ?_
    refine zc_ret ?_
    exact zk_ret1 (.inr rfl) rfl rfl ⟨rfl, rfl⟩
/-- a sign that does not stand in a text is found nowhere -/
theorem index_calls {w : World} {l : List UInt8} (hl : l.length ≤ 100000) (h13 : 13 ∉ l) : Calls Try.prog 16 [.string (bs l), .string (bs [13]), .int .i64 0].toArray w fun e w' => e = .returned (.int .i64 (-1)) ∧ w' = w := by
  refine calls_zc (n := 29) (f := 16) (fn := Try.f16) Try.func16 rfl rfl (by simp) ?_
  refine zc_seq ?_
  refine zc_region ?_
  refine zl_pureL rfl ?_
  refine zl_nil ?_
  refine zk_seq ?_
  iterate 2 (refine zc_seq ?_)
  refine zc_region ?_
  refine zl_pureL rfl ?_
  refine zl_run (by first | exact want_none | exact want_L rfl) rfl (by decide) (r_max rfl rfl (c := ((0 : Nat) : Int)) (by simp)) ?_
  refine zl_pureL rfl ?_
  refine zl_nil ?_
  refine zk_seq ?_
  refine zc_block ?_
  refine zc_loop (ι := Nat) (fun i => [(0, .string (bs l)), (1, .string (bs [13])), (7, .int .i64 i)]) (fun _ => w) (fun i => i ≤ l.length) (fun i => l.length - i) 0 (Nat.zero_le _) ?_ ?_ ?_
  · rfl
  · exact ⟨rfl, rfl, rfl, trivial⟩
  intro i hi
  have h1 : ([13] : List UInt8).length = 1 := rfl
  by_cases hlt : i < l.length
  · iterate 2 (refine zc_seq ?_)
    refine zc_region ?_
    iterate 2 (refine zl_pureL rfl ?_)
    refine z_lenL want_none (by decide) rfl ?_
    refine z_add want_none (by decide) rfl rfl (by omega) (by omega) ?_
    refine zl_pureL rfl ?_
    refine z_lenL want_none (by decide) rfl ?_
    refine z_cmpB (r := true) want_none (by decide) rfl rfl rfl (iff_of_true rfl (by omega)) ?_
    refine zl_nil ?_
    refine zk_seq ?_
    refine zc_true rfl ?_
    refine zc_skip ?_
    refine zk_seq ?_
    refine zc_seq ?_
    refine zc_block ?_
    refine zc_seq ?_
    refine zc_region ?_
    iterate 4 (refine zl_pureL rfl ?_)
    refine z_lenL want_none (by decide) rfl ?_
    refine z_add want_none (by decide) rfl rfl (by omega) (by omega) ?_
    refine z_cutN i (i + 1) (by first | exact want_none | exact want_L rfl) (by decide) rfl rfl rfl rfl (by simp) (by omega) (by omega) ?_
    rw [show (l.drop i).take (i + 1 - i) = [l.getD i 0] by rw [drop_cons0 l i hlt, show i + 1 - i = 1 by omega]; rfl]
    refine zl_pureL rfl ?_
    have hne : ¬ [l.getD i 0] = [13] := fun he => h13 (by
      have : l.getD i 0 = 13 := by simpa using he
      rw [← this, List.getD_eq_getElem?_getD, List.getElem?_eq_getElem hlt]; exact List.getElem_mem hlt)
    refine z_eqLB (q := false) (by first | exact want_none | exact want_L rfl) (by decide) rfl rfl (iff_of_false Bool.false_ne_true hne) ?_
    refine zl_nil ?_
    refine zk_seq ?_
    refine zc_false rfl ?_
    refine zc_skip ?_
    refine zk_norm_block ?_
    refine zk_seq ?_
    refine zc_region ?_
    refine zl_pureL rfl ?_
    refine z_add want_none (by decide) rfl rfl (by omega) (by omega) ?_
    refine zl_pureL rfl ?_
    refine zl_nil ?_
    exact zk_loop (i + 1) (by omega) (by omega) rfl ⟨rfl, rfl, get_int rfl (by simp), trivial⟩
  · obtain rfl : i = l.length := by omega
    iterate 2 (refine zc_seq ?_)
    refine zc_region ?_
    iterate 2 (refine zl_pureL rfl ?_)
    refine z_lenL want_none (by decide) rfl ?_
    refine z_add want_none (by decide) rfl rfl (by omega) (by omega) ?_
    refine zl_pureL rfl ?_
    refine z_lenL want_none (by decide) rfl ?_
    refine z_cmpB (r := false) want_none (by decide) rfl rfl rfl (iff_of_false Bool.false_ne_true (by omega)) ?_
    refine zl_nil ?_
    refine zk_seq ?_
    refine zc_false rfl ?_
    refine zc_exit ?_
    iterate 2 (refine zk_exit_then ?_)
    refine zk_exit_block ?_
    refine zk_seq ?_
    refine zc_seq ?_
    refine zc_region ?_
    refine zl_pureL rfl ?_
    refine zl_nil ?_
    refine zk_seq ?_
    refine zc_ret ?_
    exact zk_ret1 (.inr rfl) rfl rfl ⟨rfl, rfl⟩
end Go.Proofs.Ytmhbdalemgmfcaa.T
