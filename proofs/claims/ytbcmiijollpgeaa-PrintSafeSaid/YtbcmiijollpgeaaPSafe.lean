import Derived.Test.YtbcmiijollpgeaaPBld
/- A text in which nothing begins anything, as the program writes it. -/
namespace Go.Proofs.Ytbcmiijollpgeaa.T
open Go Go.Z Go.Proofs
set_option linter.unusedVariables false
/-- the byte at place k, or 0 -/
def byteL (s : List UInt8) (k : Nat) : Nat := (s.getD k 0).toNat
theorem byte_le (s : List UInt8) (k : Nat) : byteL s k ≤ 255 := by have := (s.getD k 0).toNat_lt; unfold byteL; omega
theorem byte_drop (l : List UInt8) (i k : Nat) : byteL (l.drop i) k = byteL l (i + k) := by
  unfold byteL
  rw [List.getD_eq_getElem?_getD, List.getD_eq_getElem?_getD, List.getElem?_drop]
theorem drop_cons0 (l : List UInt8) (i : Nat) (h : i < l.length) : l.drop i = l.getD i 0 :: l.drop (i + 1) := by
  rw [List.drop_eq_getElem_cons h, List.getD_eq_getElem?_getD, List.getElem?_eq_getElem h]; rfl
/-- the model's reading, of bytes -/
def readT (L b0 b1 b2 b3 : Nat) : Nat × Nat :=
  if b0 < 128 then (b0, 1)
  else if b0 / 32 = 6 ∧ (1 < L ∧ b1 / 64 = 2) then (if b0 % 32 * 64 + b1 % 64 ≥ 128 then (b0 % 32 * 64 + b1 % 64, 2) else (65533, 1))
  else if b0 / 16 = 14 ∧ (1 < L ∧ b1 / 64 = 2) ∧ (2 < L ∧ b2 / 64 = 2) then
    (if b0 % 16 * 4096 + b1 % 64 * 64 + b2 % 64 ≥ 2048 ∧ (b0 % 16 * 4096 + b1 % 64 * 64 + b2 % 64 < 55296 ∨ 57344 ≤ b0 % 16 * 4096 + b1 % 64 * 64 + b2 % 64) then (b0 % 16 * 4096 + b1 % 64 * 64 + b2 % 64, 3) else (65533, 1))
  else if b0 / 8 = 30 ∧ (1 < L ∧ b1 / 64 = 2) ∧ (2 < L ∧ b2 / 64 = 2) ∧ (3 < L ∧ b3 / 64 = 2) then
    (if b0 % 8 * 262144 + b1 % 64 * 4096 + b2 % 64 * 64 + b3 % 64 ≥ 65536 ∧ b0 % 8 * 262144 + b1 % 64 * 4096 + b2 % 64 * 64 + b3 % 64 ≤ 1114111 then (b0 % 8 * 262144 + b1 % 64 * 4096 + b2 % 64 * 64 + b3 % 64, 4) else (65533, 1))
  else (65533, 1)
theorem get_byte (l : List UInt8) (i : Nat) : ((bs l).get! i).toNat = byteL l i := by
  unfold byteL bs ByteArray.get!
  simp [List.getD_eq_getElem?_getD]
  rfl
theorem decode_read (l : List UInt8) (i : Nat) (h : i < l.length) : Utf8.decode (bs l) i = readT (l.drop i).length (byteL (l.drop i) 0) (byteL (l.drop i) 1) (byteL (l.drop i) 2) (byteL (l.drop i) 3) := by
  simp only [byte_drop, List.length_drop]
  unfold Utf8.decode readT
  simp only [get_byte, bs_size, Nat.add_zero, Utf8.runeError]
  have e1 : ∀ k, (decide (i + k < l.length)) = decide (k < l.length - i) := fun k => by
    rw [Bool.eq_iff_iff]; simp; omega
  have b1 := byte_le l (i + 1); have b2 := byte_le l (i + 2); have b3 := byte_le l (i + 3); have b0 := byte_le l i
  generalize byteL l i = c0 at *
  generalize byteL l (i + 1) = c1 at *
  generalize byteL l (i + 2) = c2 at *
  generalize byteL l (i + 3) = c3 at *
  generalize hL : l.length - i = L at *
  simp only [e1]
  by_cases h1 : c0 < 128
  · rw [if_pos h1, if_pos h1]
  · rw [if_neg h1, if_neg h1]
    by_cases h2 : c0 / 32 = 6 ∧ (1 < L ∧ c1 / 64 = 2)
    · rw [if_pos h2, if_pos (by simp [h2])]
    · rw [if_neg h2, if_neg (by simpa using h2)]
      by_cases h3 : c0 / 16 = 14 ∧ (1 < L ∧ c1 / 64 = 2) ∧ (2 < L ∧ c2 / 64 = 2)
      · rw [if_pos h3, if_pos (by simp [h3])]
        by_cases h5 : c0 % 16 * 4096 + c1 % 64 * 64 + c2 % 64 ≥ 2048 ∧ (c0 % 16 * 4096 + c1 % 64 * 64 + c2 % 64 < 55296 ∨ 57344 ≤ c0 % 16 * 4096 + c1 % 64 * 64 + c2 % 64)
        · rw [if_pos h5, if_pos]
          simp [Utf8.valid]; omega
        · rw [if_neg h5, if_neg]
          simp [Utf8.valid]; omega
      · rw [if_neg h3, if_neg (by simpa [and_assoc] using h3)]
        by_cases h4 : c0 / 8 = 30 ∧ (1 < L ∧ c1 / 64 = 2) ∧ (2 < L ∧ c2 / 64 = 2) ∧ (3 < L ∧ c3 / 64 = 2)
        · rw [if_pos h4, if_pos (by simp [h4])]
          by_cases h5 : c0 % 8 * 262144 + c1 % 64 * 4096 + c2 % 64 * 64 + c3 % 64 ≥ 65536 ∧ c0 % 8 * 262144 + c1 % 64 * 4096 + c2 % 64 * 64 + c3 % 64 ≤ 1114111
          · rw [if_pos h5, if_pos]
            simp [Utf8.valid]; omega
          · rw [if_neg h5, if_neg]
            simp [Utf8.valid]; omega
        · rw [if_neg h4, if_neg (by simpa [and_assoc] using h4)]

theorem readT_law (L c0 c1 c2 c3 : Nat) (hL : 1 ≤ L) (h0 : c0 ≤ 255) (h1 : c1 ≤ 255) (h2 : c2 ≤ 255) (h3 : c3 ≤ 255) : ∃ r n, readT L c0 c1 c2 c3 = (r, n) ∧ r ≤ 1114111 ∧
    ((c0 < 128 ∧ r = c0 ∧ n = 1) ∨ (128 ≤ c0 ∧ c0 = 194 ∧ 1 < L ∧ c1 = 160 ∧ r = 160 ∧ n = 2) ∨
      (128 ≤ c0 ∧ ¬ (c0 = 194 ∧ 1 < L ∧ c1 = 160) ∧ 128 ≤ r ∧ r ≠ 160 ∧ 1 ≤ n ∧ n ≤ L ∧ n ≤ 4 ∧ (2 ≤ n → 128 ≤ c1 ∧ c1 < 192) ∧ (3 ≤ n → 128 ≤ c2 ∧ c2 < 192) ∧ (4 ≤ n → 128 ≤ c3 ∧ c3 < 192))) := by
  unfold readT
  by_cases a1 : c0 < 128
  · rw [if_pos a1]; exact ⟨_, _, rfl, by omega, .inl ⟨a1, rfl, rfl⟩⟩
  rw [if_neg a1]
  by_cases a2 : c0 / 32 = 6 ∧ (1 < L ∧ c1 / 64 = 2)
  · rw [if_pos a2]
    by_cases a3 : c0 % 32 * 64 + c1 % 64 ≥ 128
    · rw [if_pos a3]
      refine ⟨_, _, rfl, by omega, .inr ?_⟩
      by_cases hq : c0 = 194 ∧ 1 < L ∧ c1 = 160
      · left; omega
      · right; exact ⟨by omega, hq, by omega, by omega, by omega, by omega, by omega, by omega, by omega, by omega⟩
    · rw [if_neg a3]; exact ⟨_, _, rfl, by omega, .inr (.inr ⟨by omega, by omega, by omega, by omega, by omega, by omega, by omega, by omega, by omega, by omega⟩)⟩
  rw [if_neg a2]
  by_cases a4 : c0 / 16 = 14 ∧ (1 < L ∧ c1 / 64 = 2) ∧ (2 < L ∧ c2 / 64 = 2)
  · rw [if_pos a4]
    split
    · exact ⟨_, _, rfl, by omega, .inr (.inr ⟨by omega, by omega, by omega, by omega, by omega, by omega, by omega, by omega, by omega, by omega⟩)⟩
    · exact ⟨_, _, rfl, by omega, .inr (.inr ⟨by omega, by omega, by omega, by omega, by omega, by omega, by omega, by omega, by omega, by omega⟩)⟩
  rw [if_neg a4]
  by_cases a5 : c0 / 8 = 30 ∧ (1 < L ∧ c1 / 64 = 2) ∧ (2 < L ∧ c2 / 64 = 2) ∧ (3 < L ∧ c3 / 64 = 2)
  · rw [if_pos a5]
    split
    · exact ⟨_, _, rfl, by omega, .inr (.inr ⟨by omega, by omega, by omega, by omega, by omega, by omega, by omega, by omega, by omega, by omega⟩)⟩
    · exact ⟨_, _, rfl, by omega, .inr (.inr ⟨by omega, by omega, by omega, by omega, by omega, by omega, by omega, by omega, by omega, by omega⟩)⟩
  rw [if_neg a5]; exact ⟨_, _, rfl, by omega, .inr (.inr ⟨by omega, by omega, by omega, by omega, by omega, by omega, by omega, by omega, by omega, by omega⟩)⟩
def amp : List UInt8 := [38, 97, 109, 112, 59]
def lt4 : List UInt8 := [38, 108, 116, 59]
def gt4 : List UInt8 := [38, 103, 116, 59]
def cr5 : List UInt8 := [38, 35, 49, 51, 59]
def quo : List UInt8 := [38, 113, 117, 111, 116, 59]
def nbs : List UInt8 := [38, 110, 98, 115, 112, 59]
/-- what a sign is written as, and how many bytes it is; nothing: as it is -/
def escS (v : Bool) (s : List UInt8) : List UInt8 :=
  if byteL s 0 = 38 then amp else if byteL s 0 = 60 then lt4 else if byteL s 0 = 62 then gt4 else if byteL s 0 = 13 then cr5
  else if byteL s 0 = 34 ∧ v = true then quo else if byteL s 0 = 194 ∧ byteL s 1 = 160 then nbs else []
def safeS (v : Bool) : Bool → List UInt8 → List UInt8
  | _, [] => []
  | true, _ :: r => safeS v false r
  | false, c :: r => if escS v (c :: r) = [] then c :: safeS v false r else escS v (c :: r) ++ safeS v (decide (escS v (c :: r) = nbs)) r
def safeN (v : Bool) (l : List UInt8) : List UInt8 := safeS v false l
theorem safe_esc (v : Bool) (s : List UInt8) (hs : s ≠ []) (he : escS v s ≠ []) (hn : escS v s = nbs → 1 < s.length) : safeN v s = escS v s ++ safeN v (s.drop (if escS v s = nbs then 2 else 1)) := by
  cases s with
  | nil => exact absurd rfl hs
  | cons c r =>
    have e1 : safeN v (c :: r) = if escS v (c :: r) = [] then c :: safeS v false r else escS v (c :: r) ++ safeS v (decide (escS v (c :: r) = nbs)) r := by cases v <;> rfl
    rw [e1, if_neg he]
    by_cases h2 : escS v (c :: r) = nbs
    · rw [if_pos h2, h2]
      cases r with
      | nil => exact absurd (hn h2) (by simp)
      | cons c2 r2 => simp [safeS, safeN]
    · rw [if_neg h2, decide_eq_false h2]; rfl
theorem safe_as (v : Bool) (s : List UInt8) (hs : s ≠ []) (he : escS v s = []) : safeN v s = s.getD 0 0 :: safeN v (s.drop 1) := by
  cases s with
  | nil => exact absurd rfl hs
  | cons c r =>
    have e1 : safeN v (c :: r) = if escS v (c :: r) = [] then c :: safeS v false r else escS v (c :: r) ++ safeS v (decide (escS v (c :: r) = nbs)) r := by cases v <;> rfl
    rw [e1, if_pos he]; rfl
theorem esc_none (v : Bool) (s : List UInt8) (h : 128 ≤ byteL s 0) (hn : ¬ (byteL s 0 = 194 ∧ byteL s 1 = 160)) : escS v s = [] := by
  unfold escS
  rw [if_neg (by omega), if_neg (by omega), if_neg (by omega), if_neg (by omega), if_neg (by omega), if_neg hn]
/-- bytes that are no begin of anything -/
theorem safe_more (v : Bool) (l : List UInt8) : ∀ (n i : Nat), i + n ≤ l.length → (∀ j, i ≤ j → j < i + n → escS v (l.drop j) = []) → safeN v (l.drop i) = (l.drop i).take n ++ safeN v (l.drop (i + n))
  | 0, i, _, _ => by simp
  | n + 1, i, h, hq => by
    have hd := drop_cons0 l i (by omega)
    rw [safe_as v (l.drop i) (by rw [hd]; simp) (hq i (Nat.le_refl _) (by omega))]
    rw [List.drop_drop, safe_more v l n (i + 1) (by omega) (fun j h1 h2 => hq j (by omega) (by omega))]
    rw [hd, List.take_succ_cons, List.cons_append, show i + 1 + n = i + (n + 1) by omega]
    rfl
theorem esc_len (v : Bool) (s : List UInt8) : (escS v s).length ≤ 6 := by
  unfold escS amp lt4 gt4 cr5 quo nbs
  repeat' split
  all_goals simp
theorem safeS_len (v : Bool) : ∀ (l : List UInt8) (q : Bool), (safeS v q l).length ≤ 6 * l.length
  | [], q => by cases q <;> simp [safeS]
  | c :: r, true => by have := safeS_len v r false; simp only [safeS, List.length_cons]; omega
  | c :: r, false => by
    have h1 := safeS_len v r false
    have h2 := safeS_len v r (decide (escS v (c :: r) = nbs))
    have h3 := esc_len v (c :: r)
    simp only [safeS]
    split
    · simp only [List.length_cons]; omega
    · simp only [List.length_append, List.length_cons]; omega
theorem safe_len (v : Bool) (l : List UInt8) : (safeN v l).length ≤ 6 * l.length := safeS_len v l false
/-- what the program's loop meets at a place -/
theorem safe_law (v : Bool) (l : List UInt8) (p : Nat) (hp : p < l.length) : ∃ r n, Utf8.decode (bs l) p = (r, n) ∧ r ≤ 1114111 ∧ 1 ≤ n ∧ p + n ≤ l.length ∧
    ((r = 38 ∧ n = 1 ∧ safeN v (l.drop p) = amp ++ safeN v (l.drop (p + 1))) ∨ (r = 60 ∧ n = 1 ∧ safeN v (l.drop p) = lt4 ++ safeN v (l.drop (p + 1))) ∨ (r = 62 ∧ n = 1 ∧ safeN v (l.drop p) = gt4 ++ safeN v (l.drop (p + 1))) ∨
     (r = 13 ∧ n = 1 ∧ safeN v (l.drop p) = cr5 ++ safeN v (l.drop (p + 1))) ∨ (r = 34 ∧ n = 1 ∧ v = true ∧ safeN v (l.drop p) = quo ++ safeN v (l.drop (p + 1))) ∨ (r = 160 ∧ n = 2 ∧ safeN v (l.drop p) = nbs ++ safeN v (l.drop (p + 2))) ∨
     (r ≠ 38 ∧ r ≠ 60 ∧ r ≠ 62 ∧ r ≠ 13 ∧ (r = 34 → v = false) ∧ r ≠ 160 ∧ safeN v (l.drop p) = (l.drop p).take n ++ safeN v (l.drop (p + n)))) := by
  have hd := drop_cons0 l p hp
  have hne : l.drop p ≠ [] := by rw [hd]; simp
  have hL : (l.drop p).length = l.length - p := List.length_drop
  obtain ⟨r, n, h1, h2, h3⟩ := readT_law (l.drop p).length (byteL (l.drop p) 0) (byteL (l.drop p) 1) (byteL (l.drop p) 2) (byteL (l.drop p) 3) (by omega) (byte_le _ _) (byte_le _ _) (byte_le _ _) (byte_le _ _)
  refine ⟨r, n, by rw [decode_read l p hp, h1], h2, ?_⟩
  have hes : ∀ e, escS v (l.drop p) = e → e ≠ [] → e ≠ nbs → safeN v (l.drop p) = e ++ safeN v (l.drop (p + 1)) := fun e he h0 hn => by
    rw [safe_esc v (l.drop p) hne (by rw [he]; exact h0) (fun h => absurd (he ▸ h) hn), he, if_neg hn, List.drop_drop]
  rcases h3 with ⟨h4, rfl, rfl⟩ | ⟨h4, h5, h6, h7, rfl, rfl⟩ | ⟨h4, h5, h6, h7, h8, h9, h10, h11, h12, h13⟩
  · refine ⟨Nat.le_refl _, by omega, ?_⟩
    by_cases q1 : byteL (l.drop p) 0 = 38
    · exact .inl ⟨q1, rfl, hes amp (by unfold escS; rw [if_pos q1]) (by decide) (by decide)⟩
    by_cases q2 : byteL (l.drop p) 0 = 60
    · exact .inr (.inl ⟨q2, rfl, hes lt4 (by unfold escS; rw [if_neg q1, if_pos q2]) (by decide) (by decide)⟩)
    by_cases q3 : byteL (l.drop p) 0 = 62
    · exact .inr (.inr (.inl ⟨q3, rfl, hes gt4 (by unfold escS; rw [if_neg q1, if_neg q2, if_pos q3]) (by decide) (by decide)⟩))
    by_cases q4 : byteL (l.drop p) 0 = 13
    · exact .inr (.inr (.inr (.inl ⟨q4, rfl, hes cr5 (by unfold escS; rw [if_neg q1, if_neg q2, if_neg q3, if_pos q4]) (by decide) (by decide)⟩)))
    by_cases q5 : byteL (l.drop p) 0 = 34 ∧ v = true
    · exact .inr (.inr (.inr (.inr (.inl ⟨q5.1, rfl, q5.2, hes quo (by unfold escS; rw [if_neg q1, if_neg q2, if_neg q3, if_neg q4, if_pos q5]) (by decide) (by decide)⟩))))
    refine .inr (.inr (.inr (.inr (.inr (.inr ⟨q1, q2, q3, q4, fun h => ?_, by omega, ?_⟩)))))
    · cases v
      · rfl
      · exact absurd ⟨h, rfl⟩ q5
    · refine safe_more v l 1 p (by omega) (fun j hj1 hj2 => ?_)
      obtain rfl : j = p := by omega
      unfold escS
      rw [if_neg q1, if_neg q2, if_neg q3, if_neg q4, if_neg q5, if_neg (by omega)]
  · refine ⟨by omega, by omega, ?_⟩
    have he : escS v (l.drop p) = nbs := by
      unfold escS
      rw [if_neg (by omega), if_neg (by omega), if_neg (by omega), if_neg (by omega), if_neg (by omega), if_pos ⟨h5, h7⟩]
    refine .inr (.inr (.inr (.inr (.inr (.inl ⟨rfl, rfl, ?_⟩)))))
    rw [safe_esc v (l.drop p) hne (by rw [he]; decide) (fun _ => h6), he, if_pos rfl, List.drop_drop]
  · refine ⟨h8, by omega, .inr (.inr (.inr (.inr (.inr (.inr ⟨by omega, by omega, by omega, by omega, by omega, h7, ?_⟩)))))⟩
    refine safe_more v l n p (by omega) (fun j hj1 hj2 => ?_)
    have hj : ∀ k, byteL (l.drop j) k = byteL (l.drop p) (j - p + k) := fun k => by rw [byte_drop, byte_drop]; congr 1; omega
    refine esc_none v _ ?_ ?_
    · rw [hj 0, Nat.add_zero]
      rcases (show j - p = 0 ∨ j - p = 1 ∨ j - p = 2 ∨ j - p = 3 by omega) with e | e | e | e <;> rw [e] <;> omega
    · rw [hj 0, hj 1, Nat.add_zero]
      rcases (show j - p = 0 ∨ j - p = 1 ∨ j - p = 2 ∨ j - p = 3 by omega) with e | e | e | e <;> rw [e]
      · intro hq
        rcases Nat.lt_or_ge 1 (l.drop p).length with h14 | h14
        · exact h5 ⟨hq.1, h14, hq.2⟩
        · have : byteL (l.drop p) 1 = 0 := by
            unfold byteL
            rw [List.getD_eq_getElem?_getD, List.getElem?_eq_none h14]; rfl
          have h15 : byteL (l.drop p) 1 = 160 := hq.2
          omega
      all_goals omega
end Go.Proofs.Ytbcmiijollpgeaa.T
