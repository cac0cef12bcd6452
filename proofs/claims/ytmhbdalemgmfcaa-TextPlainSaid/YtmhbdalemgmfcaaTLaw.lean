import Derived.Test.YtmhbdalemgmfcaaTDec
/- What the model's reading of a sign says, held against the document's. -/
namespace Go.Proofs.Ytmhbdalemgmfcaa.T
open Go Go.Z Go.Proofs
set_option linter.unusedVariables false
def lostP (s : List UInt8) : Prop := 3 ≤ s.length ∧ byteL s 0 = 239 ∧ byteL s 1 = 191 ∧ byteL s 2 = 189
/-- the model's reading, of bytes -/
def readT (L b0 b1 b2 b3 : Nat) : Nat × Nat :=
  if b0 < 128 then (b0, 1)
  else if b0 / 32 = 6 ∧ (1 < L ∧ b1 / 64 = 2) then (if b0 % 32 * 64 + b1 % 64 ≥ 128 then (b0 % 32 * 64 + b1 % 64, 2) else (65533, 1))
  else if b0 / 16 = 14 ∧ (1 < L ∧ b1 / 64 = 2) ∧ (2 < L ∧ b2 / 64 = 2) then
    (if b0 % 16 * 4096 + b1 % 64 * 64 + b2 % 64 ≥ 2048 ∧ (b0 % 16 * 4096 + b1 % 64 * 64 + b2 % 64 < 55296 ∨ 57344 ≤ b0 % 16 * 4096 + b1 % 64 * 64 + b2 % 64) then (b0 % 16 * 4096 + b1 % 64 * 64 + b2 % 64, 3) else (65533, 1))
  else if b0 / 8 = 30 ∧ (1 < L ∧ b1 / 64 = 2) ∧ (2 < L ∧ b2 / 64 = 2) ∧ (3 < L ∧ b3 / 64 = 2) then
    (if b0 % 8 * 262144 + b1 % 64 * 4096 + b2 % 64 * 64 + b3 % 64 ≥ 65536 ∧ b0 % 8 * 262144 + b1 % 64 * 4096 + b2 % 64 * 64 + b3 % 64 ≤ 1114111 then (b0 % 8 * 262144 + b1 % 64 * 4096 + b2 % 64 * 64 + b3 % 64, 4) else (65533, 1))
  else (65533, 1)
theorem get_byte (l : List UInt8) (i : Nat) : ((bs l).get! i).toNat = byteL l i := by
  unfold byteL bs ByteArray.get!
  simp [List.getD_eq_getElem?_getD]
  rfl
theorem decode_read (l : List UInt8) (i : Nat) (h : i < l.length) : Utf8.decode (bs l) i = readT (l.drop i).length (byteL (l.drop i) 0) (byteL (l.drop i) 1) (byteL (l.drop i) 2) (byteL (l.drop i) 3) := by
  simp only [byte_drop, List.length_drop]
  unfold Utf8.decode readT
  simp only [get_byte, bs_size, Nat.add_zero, Utf8.runeError]
  have e1 : ∀ k, (decide (i + k < l.length)) = decide (k < l.length - i) := fun k => by
    rw [Bool.eq_iff_iff]; simp; omega
  have b1 := byte_le l (i + 1); have b2 := byte_le l (i + 2); have b3 := byte_le l (i + 3); have b0 := byte_le l i
  generalize byteL l i = c0 at *
  generalize byteL l (i + 1) = c1 at *
  generalize byteL l (i + 2) = c2 at *
  generalize byteL l (i + 3) = c3 at *
  generalize hL : l.length - i = L at *
  simp only [e1]
  by_cases h1 : c0 < 128
  · rw [if_pos h1, if_pos h1]
  · rw [if_neg h1, if_neg h1]
    by_cases h2 : c0 / 32 = 6 ∧ (1 < L ∧ c1 / 64 = 2)
    · rw [if_pos h2, if_pos (by simp [h2])]
    · rw [if_neg h2, if_neg (by simpa using h2)]
      by_cases h3 : c0 / 16 = 14 ∧ (1 < L ∧ c1 / 64 = 2) ∧ (2 < L ∧ c2 / 64 = 2)
      · rw [if_pos h3, if_pos (by simp [h3])]
        by_cases h5 : c0 % 16 * 4096 + c1 % 64 * 64 + c2 % 64 ≥ 2048 ∧ (c0 % 16 * 4096 + c1 % 64 * 64 + c2 % 64 < 55296 ∨ 57344 ≤ c0 % 16 * 4096 + c1 % 64 * 64 + c2 % 64)
        · rw [if_pos h5, if_pos]
          simp [Utf8.valid]; omega
        · rw [if_neg h5, if_neg]
          simp [Utf8.valid]; omega
      · rw [if_neg h3, if_neg (by simpa [and_assoc] using h3)]
        by_cases h4 : c0 / 8 = 30 ∧ (1 < L ∧ c1 / 64 = 2) ∧ (2 < L ∧ c2 / 64 = 2) ∧ (3 < L ∧ c3 / 64 = 2)
        · rw [if_pos h4, if_pos (by simp [h4])]
          by_cases h5 : c0 % 8 * 262144 + c1 % 64 * 4096 + c2 % 64 * 64 + c3 % 64 ≥ 65536 ∧ c0 % 8 * 262144 + c1 % 64 * 4096 + c2 % 64 * 64 + c3 % 64 ≤ 1114111
          · rw [if_pos h5, if_pos]
            simp [Utf8.valid]; omega
          · rw [if_neg h5, if_neg]
            simp [Utf8.valid]; omega
        · rw [if_neg h4, if_neg (by simpa [and_assoc] using h4)]
theorem readT_one {L c0 c1 c2 c3 : Nat} (h : c0 < 128) : readT L c0 c1 c2 c3 = (c0, 1) := by unfold readT; rw [if_pos h]
theorem readT_two {L c0 c1 c2 c3 : Nat} (h : 192 ≤ c0) (h' : c0 < 224) (h1 : c1 ≤ 255) : readT L c0 c1 c2 c3 = if 194 ≤ c0 ∧ 1 < L ∧ 128 ≤ c1 ∧ c1 ≤ 191 then (c0 % 32 * 64 + c1 % 64, 2) else (65533, 1) := by
  unfold readT
  rw [if_neg (by omega)]
  by_cases hq : 1 < L ∧ c1 / 64 = 2
  · rw [if_pos ⟨by omega, hq⟩]
    by_cases h2 : 194 ≤ c0
    · rw [if_pos (by omega), if_pos (by omega)]
    · rw [if_neg (by omega), if_neg (by omega)]
  · rw [if_neg (fun h => hq h.2), if_neg (by omega), if_neg (by omega), if_neg (by omega)]
theorem readT_three {L c0 c1 c2 c3 : Nat} (h : 224 ≤ c0) (h' : c0 < 240) (h1 : c1 ≤ 255) (h2 : c2 ≤ 255) :
    readT L c0 c1 c2 c3 = if 1 < L ∧ 128 ≤ c1 ∧ c1 ≤ 191 ∧ 2 < L ∧ 128 ≤ c2 ∧ c2 ≤ 191 ∧ (c0 = 224 → 160 ≤ c1) ∧ (c0 = 237 → c1 ≤ 159) then (c0 % 16 * 4096 + c1 % 64 * 64 + c2 % 64, 3) else (65533, 1) := by
  unfold readT
  rw [if_neg (by omega), if_neg (by omega)]
  by_cases hq : (1 < L ∧ c1 / 64 = 2) ∧ (2 < L ∧ c2 / 64 = 2)
  · rw [if_pos ⟨by omega, hq⟩]
    by_cases h3 : (c0 = 224 → 160 ≤ c1) ∧ (c0 = 237 → c1 ≤ 159)
    · rw [if_pos (by omega), if_pos (by omega)]
    · rw [if_neg (by omega), if_neg (by omega)]
  · rw [if_neg (fun h => hq h.2), if_neg (by omega), if_neg (by omega)]
theorem readT_four {L c0 c1 c2 c3 : Nat} (h : 240 ≤ c0) (h' : c0 < 248) (h1 : c1 ≤ 255) (h2 : c2 ≤ 255) (h3 : c3 ≤ 255) :
    readT L c0 c1 c2 c3 = if 1 < L ∧ 128 ≤ c1 ∧ c1 ≤ 191 ∧ 2 < L ∧ 128 ≤ c2 ∧ c2 ≤ 191 ∧ 3 < L ∧ 128 ≤ c3 ∧ c3 ≤ 191 ∧ (c0 = 240 → 144 ≤ c1) ∧ c0 ≤ 244 ∧ (c0 = 244 → c1 ≤ 143) then (c0 % 8 * 262144 + c1 % 64 * 4096 + c2 % 64 * 64 + c3 % 64, 4) else (65533, 1) := by
  unfold readT
  rw [if_neg (by omega), if_neg (by omega), if_neg (by omega)]
  by_cases hq : (1 < L ∧ c1 / 64 = 2) ∧ (2 < L ∧ c2 / 64 = 2) ∧ (3 < L ∧ c3 / 64 = 2)
  · rw [if_pos ⟨by omega, hq⟩]
    by_cases h3 : (c0 = 240 → 144 ≤ c1) ∧ c0 ≤ 244 ∧ (c0 = 244 → c1 ≤ 143)
    · rw [if_pos (by omega), if_pos (by omega)]
    · rw [if_neg (by omega), if_neg (by omega)]
  · rw [if_neg (fun h => hq h.2), if_neg (by omega)]
theorem readT_bad {L c0 c1 c2 c3 : Nat} (h : 128 ≤ c0 ∧ c0 < 192 ∨ 248 ≤ c0) (h0 : c0 ≤ 255) : readT L c0 c1 c2 c3 = (65533, 1) := by
  unfold readT
  rw [if_neg (by omega), if_neg (by omega), if_neg (by omega), if_neg (by omega)]
theorem cont2 (s : List UInt8) (lo hi : Nat) : contS s 2 1 1 lo hi = if 1 < s.length ∧ lo ≤ byteL s 1 ∧ byteL s 1 ≤ hi then 2 else 1 := by
  simp only [contS, show (1 < 2) = True by simp, true_and]
theorem cont3 (s : List UInt8) (lo hi : Nat) : contS s 3 2 1 lo hi = if 1 < s.length ∧ lo ≤ byteL s 1 ∧ byteL s 1 ≤ hi then (if 2 < s.length ∧ 128 ≤ byteL s 2 ∧ byteL s 2 ≤ 191 then 3 else 2) else 1 := by
  simp only [contS, show (1 < 3) = True by simp, show (1 + 1 < 3) = True by simp, true_and]
theorem cont4 (s : List UInt8) (lo hi : Nat) : contS s 4 3 1 lo hi = if 1 < s.length ∧ lo ≤ byteL s 1 ∧ byteL s 1 ≤ hi then (if 2 < s.length ∧ 128 ≤ byteL s 2 ∧ byteL s 2 ≤ 191 then (if 3 < s.length ∧ 128 ≤ byteL s 3 ∧ byteL s 3 ≤ 191 then 4 else 3) else 2) else 1 := by
  simp only [contS, show (1 < 4) = True by simp, show (1 + 1 < 4) = True by simp, show (1 + 1 + 1 < 4) = True by simp, true_and]
theorem okS_t {s : List UInt8} {n lo hi : Nat} (hv : leadN (byteL s 0) = (n, lo, hi)) (hn : 0 < n) (h : sizeS s = n) : okS s = true := by
  unfold okS; rw [hv]; exact decide_eq_true ⟨hn, h⟩
theorem okS_f {s : List UInt8} {n lo hi : Nat} (hv : leadN (byteL s 0) = (n, lo, hi)) (h : sizeS s ≠ n) : okS s = false := by
  unfold okS; rw [hv]; exact decide_eq_false (fun hq => h hq.2)
theorem three_law (s : List UInt8) (lo hi : Nat) (h0 : 224 ≤ byteL s 0) (h0' : byteL s 0 < 240) (hv : leadN (byteL s 0) = (3, lo, hi))
    (hlo : lo = if byteL s 0 = 224 then 160 else 128) (hhi : hi = if byteL s 0 = 237 then 159 else 191) :
    (okS s = true ∧ (readT s.length (byteL s 0) (byteL s 1) (byteL s 2) (byteL s 3)).2 = sizeS s ∧ ((readT s.length (byteL s 0) (byteL s 1) (byteL s 2) (byteL s 3)).1 = 65533 → lostP s)) ∨
    (okS s = false ∧ (readT s.length (byteL s 0) (byteL s 1) (byteL s 2) (byteL s 3)).1 = 65533 ∧ ¬ lostP s) := by
  have b1 := byte_le s 1; have b2 := byte_le s 2
  have e : sizeS s = contS s 3 2 1 lo hi := by unfold sizeS; rw [hv]; rfl
  rw [cont3] at e
  rw [readT_three h0 h0' b1 b2]
  by_cases hq : 1 < s.length ∧ lo ≤ byteL s 1 ∧ byteL s 1 ≤ hi
  · rw [if_pos hq] at e
    by_cases hq2 : 2 < s.length ∧ 128 ≤ byteL s 2 ∧ byteL s 2 ≤ 191
    · rw [if_pos hq2] at e
      left
      rw [if_pos (by split at hlo <;> split at hhi <;> omega)]
      refine ⟨okS_t hv (by omega) e, e.symm, fun h => ?_⟩
      dsimp only at h
      unfold lostP
      split at hlo <;> split at hhi <;> omega
    · rw [if_neg hq2] at e
      right
      rw [if_neg (by omega)]
      exact ⟨okS_f hv (by omega), rfl, by unfold lostP; omega⟩
  · rw [if_neg hq] at e
    right
    rw [if_neg (by split at hlo <;> split at hhi <;> omega)]
    refine ⟨okS_f hv (by omega), rfl, ?_⟩
    unfold lostP
    split at hlo <;> split at hhi <;> omega
theorem four_law (s : List UInt8) (lo hi : Nat) (h0 : 240 ≤ byteL s 0) (h0' : byteL s 0 ≤ 244) (hv : leadN (byteL s 0) = (4, lo, hi))
    (hlo : lo = if byteL s 0 = 240 then 144 else 128) (hhi : hi = if byteL s 0 = 244 then 143 else 191) :
    (okS s = true ∧ (readT s.length (byteL s 0) (byteL s 1) (byteL s 2) (byteL s 3)).2 = sizeS s ∧ ((readT s.length (byteL s 0) (byteL s 1) (byteL s 2) (byteL s 3)).1 = 65533 → lostP s)) ∨
    (okS s = false ∧ (readT s.length (byteL s 0) (byteL s 1) (byteL s 2) (byteL s 3)).1 = 65533 ∧ ¬ lostP s) := by
  have b1 := byte_le s 1; have b2 := byte_le s 2; have b3 := byte_le s 3
  have e : sizeS s = contS s 4 3 1 lo hi := by unfold sizeS; rw [hv]; rfl
  rw [cont4] at e
  rw [readT_four h0 (by omega) b1 b2 b3]
  have hnl : ¬ lostP s := by unfold lostP; omega
  by_cases hq : 1 < s.length ∧ lo ≤ byteL s 1 ∧ byteL s 1 ≤ hi
  · rw [if_pos hq] at e
    by_cases hq2 : 2 < s.length ∧ 128 ≤ byteL s 2 ∧ byteL s 2 ≤ 191
    · rw [if_pos hq2] at e
      by_cases hq3 : 3 < s.length ∧ 128 ≤ byteL s 3 ∧ byteL s 3 ≤ 191
      · rw [if_pos hq3] at e
        left
        rw [if_pos (by split at hlo <;> split at hhi <;> omega)]
        refine ⟨okS_t hv (by omega) e, e.symm, fun h => ?_⟩
        dsimp only at h
        exfalso
        split at hlo <;> split at hhi <;> omega
      · rw [if_neg hq3] at e
        right
        rw [if_neg (by omega)]
        exact ⟨okS_f hv (by omega), rfl, hnl⟩
    · rw [if_neg hq2] at e
      right
      rw [if_neg (by omega)]
      exact ⟨okS_f hv (by omega), rfl, hnl⟩
  · rw [if_neg hq] at e
    right
    rw [if_neg (by split at hlo <;> split at hhi <;> omega)]
    exact ⟨okS_f hv (by omega), rfl, hnl⟩
/-- what is a sign is read as it is long; what is none is read as one byteL, and as no sign -/
theorem read_law (s : List UInt8) (hs : s ≠ []) :
    (okS s = true ∧ (readT s.length (byteL s 0) (byteL s 1) (byteL s 2) (byteL s 3)).2 = sizeS s ∧ ((readT s.length (byteL s 0) (byteL s 1) (byteL s 2) (byteL s 3)).1 = 65533 → lostP s)) ∨
    (okS s = false ∧ (readT s.length (byteL s 0) (byteL s 1) (byteL s 2) (byteL s 3)).1 = 65533 ∧ ¬ lostP s) := by
  have b0 := byte_le s 0; have b1 := byte_le s 1
  rcases lead_cases (byteL s 0) with ⟨h, hv⟩ | ⟨h, h', hv⟩ | ⟨h, hv⟩ | ⟨h, hv⟩ | ⟨h, h', h'', hv⟩ | ⟨h, hv⟩ | ⟨h, h', hv⟩ | ⟨h, hv⟩ | ⟨h, hv⟩
  · have e : sizeS s = 1 := by unfold sizeS; rw [hv]; rfl
    left
    rw [readT_one h]
    exact ⟨okS_t hv (by omega) e, e.symm, fun h => by dsimp only at h; omega⟩
  · have e : sizeS s = contS s 2 1 1 128 191 := by unfold sizeS; rw [hv]; rfl
    rw [cont2] at e
    rw [readT_two (by omega) (by omega) b1]
    by_cases hq : 1 < s.length ∧ 128 ≤ byteL s 1 ∧ byteL s 1 ≤ 191
    · rw [if_pos hq] at e
      left
      rw [if_pos ⟨h, hq⟩]
      exact ⟨okS_t hv (by omega) e, e.symm, fun h => by dsimp only at h; omega⟩
    · rw [if_neg hq] at e
      right
      rw [if_neg (fun h => hq h.2)]
      exact ⟨okS_f hv (by omega), rfl, by unfold lostP; omega⟩
  · exact three_law s _ _ (by omega) (by omega) hv (by rw [if_pos h]) (by rw [if_neg (by omega)])
  · exact three_law s _ _ (by omega) (by omega) hv (by rw [if_neg (by omega)]) (by rw [if_pos h])
  · exact three_law s _ _ (by omega) (by omega) hv (by rw [if_neg (by omega)]) (by rw [if_neg (by omega)])
  · exact four_law s _ _ (by omega) (by omega) hv (by rw [if_pos h]) (by rw [if_neg (by omega)])
  · exact four_law s _ _ (by omega) (by omega) hv (by rw [if_neg (by omega)]) (by rw [if_neg (by omega)])
  · exact four_law s _ _ (by omega) (by omega) hv (by rw [if_neg (by omega)]) (by rw [if_pos h])
  · have e : sizeS s = 0 := by unfold sizeS; rw [hv]; rfl
    have hok : okS s = false := by unfold okS; rw [hv]; exact decide_eq_false (fun hq => absurd hq.1 (Nat.lt_irrefl 0))
    right
    refine ⟨hok, ?_, by unfold lostP; omega⟩
    by_cases h1 : 192 ≤ byteL s 0 ∧ byteL s 0 < 194
    · rw [readT_two (by omega) (by omega) b1, if_neg (by omega)]
    · by_cases h2 : 245 ≤ byteL s 0 ∧ byteL s 0 < 248
      · rw [readT_four (by omega) (by omega) b1 (byte_le s 2) (byte_le s 3), if_neg (by omega)]
      · rw [readT_bad (by omega) b0]
end Go.Proofs.Ytmhbdalemgmfcaa.T
