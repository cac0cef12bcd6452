import Derived.Test.YtmhbdalemgmfcaaTWalkB
/- TextSigns: the plain law, the walk. -/
namespace Go.Proofs.Ytmhbdalemgmfcaa.T
open Go Go.Z Go.Proofs
set_option linter.unusedVariables false
def u8 (n : Nat) : UInt8 := UInt8.ofNat n
theorem u8_nat {n : Nat} (h : n < 256) : (u8 n).toNat = n := by simp [u8]; omega
def encN (k : Nat) : List UInt8 :=
  if k < 128 then [u8 k] else if k < 2048 then [u8 (192 + k / 64), u8 (128 + k % 64)] else if k < 65536 then [u8 (224 + k / 4096), u8 (128 + k / 64 % 64), u8 (128 + k % 64)]
  else [u8 (240 + k / 262144), u8 (128 + k / 4096 % 64), u8 (128 + k / 64 % 64), u8 (128 + k % 64)]
def goodK (k : Nat) : Prop := k < 1114112 ∧ (k < 55296 ∨ 57344 ≤ k) ∧ k ≠ 65279
theorem encode_bs {k : Nat} (h : goodK k) : Utf8.encode (k : Int) = bs (encN k) := by
  obtain ⟨h1, h2, _⟩ := h
  have hv : Utf8.valid (k : Int) = true := by unfold Utf8.valid; simp; omega
  unfold Utf8.encode encN
  simp only [hv, if_true, Int.toNat_natCast]
  by_cases a1 : k < 128
  · rw [if_pos a1, if_pos a1]; rfl
  · rw [if_neg a1, if_neg a1]
    by_cases a2 : k < 2048
    · rw [if_pos a2, if_pos a2]; rfl
    · rw [if_neg a2, if_neg a2]
      by_cases a3 : k < 65536
      · rw [if_pos a3, if_pos a3]; rfl
      · rw [if_neg a3, if_neg a3]; rfl
/-- what begins as a sign of n bytes, and breaks off behind m of them -/
theorem stops {s : List UInt8} {n lo hi m : Nat} (hv : leadN (byteL s 0) = (n, lo, hi)) (hm : m < n) (hm1 : 1 ≤ m) (hs : s ≠ []) (hc : contS s n (n - 1) 1 lo hi = m) : okS s = false ∧ dec s = lost ++ dec (s.drop m) ∧ whole s = false := by
  have hsz : sizeS s = m := by unfold sizeS; rw [hv, if_neg (by dsimp only; omega)]; exact hc
  have hok : okS s = false := okS_f hv (by omega)
  refine ⟨hok, ?_, ?_⟩
  · rw [dec_cons s hs, hsz, show max m 1 = m by omega]
    unfold pieceS; rw [hok, if_neg Bool.false_ne_true]
  · rw [whole_cons s hs, hok]; rfl
theorem whole_one {s : List UInt8} (hs : s ≠ []) (h : okS s = true) (hn : sizeS s = s.length) : whole s = true := by
  rw [whole_cons s hs, h, hn, List.drop_length]; rfl
theorem dec_a : dec [97] = [97] := by decide
/-- all that the law says of a sign of more than one byte -/
structure Sg (s : List UInt8) : Prop where
  whole : whole s = true
  same : decode s = s
  cut : T.whole (s.take (s.length - 1)) = false
  lost : decode (s.take (s.length - 1)) = T.lost
  losta : decode (s.take (s.length - 1) ++ [97]) = [239, 191, 189, 97]
  tail : T.whole (s.drop 1) = false
theorem bad_tail {c : UInt8} {r : List UInt8} (h : 128 ≤ c.toNat ∧ c.toNat ≤ 191) : whole (c :: r) = false := by
  have hok : okS (c :: r) = false := by
    have hb : byteL (c :: r) 0 = c.toNat := rfl
    unfold okS
    rw [hb]
    rcases lead_cases c.toNat with ⟨g, hv⟩ | ⟨g, g', hv⟩ | ⟨g, hv⟩ | ⟨g, hv⟩ | ⟨g, g', g'', hv⟩ | ⟨g, hv⟩ | ⟨g, g', hv⟩ | ⟨g, hv⟩ | ⟨g, hv⟩
    all_goals first | omega | (rw [hv]; exact decide_eq_false (fun hq => absurd hq.1 (Nat.lt_irrefl 0)))
  rw [whole_cons _ (by simp), hok]; rfl
theorem no_bom {s : List UInt8} (h : ¬ (3 ≤ s.length ∧ byteL s 0 = 239 ∧ byteL s 1 = 187 ∧ byteL s 2 = 191)) : ¬ s.take 3 = bom := fun hb => h ((take3 s).1 hb)
theorem sg2 {c0 c1 : UInt8} (h0 : 194 ≤ c0.toNat ∧ c0.toNat ≤ 223) (h1 : 128 ≤ c1.toNat ∧ c1.toNat ≤ 191) : Sg [c0, c1] := by
  have hv : leadN c0.toNat = (2, 128, 191) := by
    rcases lead_cases c0.toNat with ⟨g, hv⟩ | ⟨g, g', hv⟩ | ⟨g, hv⟩ | ⟨g, hv⟩ | ⟨g, g', g'', hv⟩ | ⟨g, hv⟩ | ⟨g, g', hv⟩ | ⟨g, hv⟩ | ⟨g, hv⟩ <;> first | omega | exact hv
  have hok : okS [c0, c1] = true ∧ sizeS [c0, c1] = 2 := by
    have e : sizeS [c0, c1] = 2 := by
      unfold sizeS
      rw [show byteL [c0, c1] 0 = c0.toNat from rfl, hv]
      show contS [c0, c1] 2 1 1 128 191 = 2
      rw [cont2, if_pos ⟨by simp, h1.1, h1.2⟩]
    exact ⟨okS_t (s := [c0, c1]) hv (by decide) e, e⟩
  have hw := whole_one (by simp) hok.1 hok.2
  have hc1 : contS [c0] 2 1 1 128 191 = 1 := by rw [cont2, if_neg (by simp)]
  obtain ⟨g1, g2, g3⟩ := stops (s := [c0]) (m := 1) hv (by decide) (by decide) (by simp) hc1
  have hc2 : contS [c0, 97] 2 1 1 128 191 = 1 := by rw [cont2, if_neg (by intro h; exact absurd h.2.1 (show ¬ 128 ≤ 97 by decide))]
  obtain ⟨k1, k2, k3⟩ := stops (s := [c0, 97]) (m := 1) hv (by decide) (by decide) (by simp) hc2
  refine ⟨hw, decode_whole hw (no_bom (by simp)), g3, ?_, ?_, bad_tail h1⟩
  · show decode [c0] = _
    rw [decode_no (no_bom (by simp)), g2]; rfl
  · show decode [c0, 97] = _
    rw [decode_no (no_bom (by simp)), k2]; rfl
theorem sg3 {c0 c1 c2 : UInt8} {lo hi : Nat} (h0 : 224 ≤ c0.toNat ∧ c0.toNat ≤ 239) (hv : leadN c0.toNat = (3, lo, hi)) (h1 : lo ≤ c1.toNat ∧ c1.toNat ≤ hi) (h1' : 128 ≤ c1.toNat ∧ c1.toNat ≤ 191) (h2 : 128 ≤ c2.toNat ∧ c2.toNat ≤ 191)
    (hb : ¬ (c0.toNat = 239 ∧ c1.toNat = 187 ∧ c2.toNat = 191)) : Sg [c0, c1, c2] := by
  have hok : okS [c0, c1, c2] = true ∧ sizeS [c0, c1, c2] = 3 := by
    have e : sizeS [c0, c1, c2] = 3 := by
      unfold sizeS
      rw [show byteL [c0, c1, c2] 0 = c0.toNat from rfl, hv]
      show contS [c0, c1, c2] 3 2 1 lo hi = 3
      rw [cont3, if_pos ⟨by simp, h1.1, h1.2⟩, if_pos ⟨by simp, h2.1, h2.2⟩]
    exact ⟨okS_t (s := [c0, c1, c2]) hv (by decide) e, e⟩
  have hw := whole_one (by simp) hok.1 hok.2
  have hc1 : contS [c0, c1] 3 2 1 lo hi = 2 := by rw [cont3, if_pos ⟨by simp, h1.1, h1.2⟩, if_neg (by simp)]
  obtain ⟨g1, g2, g3⟩ := stops (s := [c0, c1]) (m := 2) hv (by decide) (by decide) (by simp) hc1
  have hc2 : contS [c0, c1, 97] 3 2 1 lo hi = 2 := by rw [cont3, if_pos ⟨by simp, h1.1, h1.2⟩, if_neg (by intro h; exact absurd h.2.1 (show ¬ 128 ≤ 97 by decide))]
  obtain ⟨k1, k2, k3⟩ := stops (s := [c0, c1, 97]) (m := 2) hv (by decide) (by decide) (by simp) hc2
  refine ⟨hw, decode_whole hw (no_bom (fun h => hb h.2)), g3, ?_, ?_, bad_tail h1'⟩
  · show decode [c0, c1] = _
    rw [decode_no (no_bom (by simp)), g2]; rfl
  · show decode [c0, c1, 97] = _
    have nb : ¬ (97 : UInt8).toNat = 191 := by decide
    rw [decode_no (a := [c0, c1, 97]) (no_bom (fun h => nb h.2.2.2)), k2]; rfl
theorem sg4 {c0 c1 c2 c3 : UInt8} {lo hi : Nat} (h0 : 240 ≤ c0.toNat ∧ c0.toNat ≤ 244) (hv : leadN c0.toNat = (4, lo, hi)) (h1 : lo ≤ c1.toNat ∧ c1.toNat ≤ hi) (h1' : 128 ≤ c1.toNat ∧ c1.toNat ≤ 191) (h2 : 128 ≤ c2.toNat ∧ c2.toNat ≤ 191) (h3 : 128 ≤ c3.toNat ∧ c3.toNat ≤ 191) : Sg [c0, c1, c2, c3] := by
  have hok : okS [c0, c1, c2, c3] = true ∧ sizeS [c0, c1, c2, c3] = 4 := by
    have e : sizeS [c0, c1, c2, c3] = 4 := by
      unfold sizeS
      rw [show byteL [c0, c1, c2, c3] 0 = c0.toNat from rfl, hv]
      show contS [c0, c1, c2, c3] 4 3 1 lo hi = 4
      rw [cont4, if_pos ⟨by simp, h1.1, h1.2⟩, if_pos ⟨by simp, h2.1, h2.2⟩, if_pos ⟨by simp, h3.1, h3.2⟩]
    exact ⟨okS_t (s := [c0, c1, c2, c3]) hv (by decide) e, e⟩
  have hw := whole_one (by simp) hok.1 hok.2
  have hc1 : contS [c0, c1, c2] 4 3 1 lo hi = 3 := by rw [cont4, if_pos ⟨by simp, h1.1, h1.2⟩, if_pos ⟨by simp, h2.1, h2.2⟩, if_neg (by simp)]
  obtain ⟨g1, g2, g3⟩ := stops (s := [c0, c1, c2]) (m := 3) hv (by decide) (by decide) (by simp) hc1
  have hc2 : contS [c0, c1, c2, 97] 4 3 1 lo hi = 3 := by rw [cont4, if_pos ⟨by simp, h1.1, h1.2⟩, if_pos ⟨by simp, h2.1, h2.2⟩, if_neg (by intro h; exact absurd h.2.1 (show ¬ 128 ≤ 97 by decide))]
  obtain ⟨k1, k2, k3⟩ := stops (s := [c0, c1, c2, 97]) (m := 3) hv (by decide) (by decide) (by simp) hc2
  have nb : ∀ r : List UInt8, ¬ (c0 :: r).take 3 = bom := fun r => no_bom (fun h => by
    have : c0.toNat = 239 := h.2.1
    omega)
  refine ⟨hw, decode_whole hw (nb _), g3, ?_, ?_, bad_tail h1'⟩
  · show decode [c0, c1, c2] = _
    rw [decode_no (nb _), g2]; rfl
  · show decode [c0, c1, c2, 97] = _
    rw [decode_no (nb _), k2]; rfl
theorem signs {k : Nat} (h : goodK k) : whole (encN k) = true ∧ decode (encN k) = encN k ∧ 1 ≤ (encN k).length ∧ (encN k).length ≤ 4 ∧ ((encN k).length ≠ 1 → Sg (encN k)) := by
  obtain ⟨h1, h2, h3⟩ := h
  unfold encN
  by_cases a1 : k < 128
  · rw [if_pos a1]
    have hn := u8_nat (n := k) (by omega)
    have hv : leadN (u8 k).toNat = (1, 0, 0) := by rw [hn]; unfold leadN; rw [if_pos a1]
    have e : sizeS [u8 k] = 1 := by
      unfold sizeS
      rw [show byteL [u8 k] 0 = (u8 k).toNat from rfl, hv]; rfl
    have hok : okS [u8 k] = true := okS_t (s := [u8 k]) hv (by decide) e
    have hw := whole_one (by simp) hok e
    exact ⟨hw, decode_whole hw (no_bom (by simp)), by simp, by simp, fun h => absurd rfl h⟩
  · rw [if_neg a1]
    by_cases a2 : k < 2048
    · rw [if_pos a2]
      have n0 := u8_nat (n := 192 + k / 64) (by omega)
      have n1 := u8_nat (n := 128 + k % 64) (by omega)
      have := sg2 (c0 := u8 (192 + k / 64)) (c1 := u8 (128 + k % 64)) (by omega) (by omega)
      exact ⟨this.whole, this.same, by simp, by simp, fun _ => this⟩
    · rw [if_neg a2]
      by_cases a3 : k < 65536
      · rw [if_pos a3]
        have n0 := u8_nat (n := 224 + k / 4096) (by omega)
        have n1 := u8_nat (n := 128 + k / 64 % 64) (by omega)
        have n2 := u8_nat (n := 128 + k % 64) (by omega)
        obtain ⟨lo, hi, hv, hlo⟩ : ∃ lo hi, leadN (u8 (224 + k / 4096)).toNat = (3, lo, hi) ∧ lo ≤ 128 + k / 64 % 64 ∧ 128 + k / 64 % 64 ≤ hi := by
          rw [n0]
          rcases lead_cases (224 + k / 4096) with ⟨g, hv⟩ | ⟨g, g', hv⟩ | ⟨g, hv⟩ | ⟨g, hv⟩ | ⟨g, g', g'', hv⟩ | ⟨g, hv⟩ | ⟨g, g', hv⟩ | ⟨g, hv⟩ | ⟨g, hv⟩ <;> first | omega | exact ⟨_, _, hv, by omega, by omega⟩
        have := sg3 (c0 := u8 (224 + k / 4096)) (c1 := u8 (128 + k / 64 % 64)) (c2 := u8 (128 + k % 64)) (by omega) hv (by omega) (by omega) (by omega) (by omega)
        exact ⟨this.whole, this.same, by simp, by simp, fun _ => this⟩
      · rw [if_neg a3]
        have n0 := u8_nat (n := 240 + k / 262144) (by omega)
        have n1 := u8_nat (n := 128 + k / 4096 % 64) (by omega)
        have n2 := u8_nat (n := 128 + k / 64 % 64) (by omega)
        have n3 := u8_nat (n := 128 + k % 64) (by omega)
        obtain ⟨lo, hi, hv, hlo⟩ : ∃ lo hi, leadN (u8 (240 + k / 262144)).toNat = (4, lo, hi) ∧ lo ≤ 128 + k / 4096 % 64 ∧ 128 + k / 4096 % 64 ≤ hi := by
          rw [n0]
          rcases lead_cases (240 + k / 262144) with ⟨g, hv⟩ | ⟨g, g', hv⟩ | ⟨g, hv⟩ | ⟨g, hv⟩ | ⟨g, g', g'', hv⟩ | ⟨g, hv⟩ | ⟨g, g', hv⟩ | ⟨g, hv⟩ | ⟨g, hv⟩ <;> first | omega | exact ⟨_, _, hv, by omega, by omega⟩
        have := sg4 (c0 := u8 (240 + k / 262144)) (c1 := u8 (128 + k / 4096 % 64)) (c2 := u8 (128 + k / 64 % 64)) (c3 := u8 (128 + k % 64)) (by omega) hv (by omega) (by omega) (by omega) (by omega)
        exact ⟨this.whole, this.same, by simp, by simp, fun _ => this⟩
set_option maxHeartbeats 2000000 in
theorem TextSigns_walk (a : Int) (w : World) : Calls Try.prog 11 #[.int .i64 a] w fun e w' => e = .returned (.bool true) ∧ RowKit.Below w.heap.size w w' := by
  have hK : 0 ≤ a % 1114112 ∧ a % 1114112 < 1114112 := ⟨Int.emod_nonneg _ (by decide), Int.emod_lt_of_pos _ (by decide)⟩
  obtain ⟨i, hi⟩ := Int.eq_ofNat_of_zero_le hK.1
  have hi2 : i < 1114112 := by omega
  show Calls Try.prog 11 [Value.int .i64 a].toArray w _
  refine calls_zc (n := 63) (f := 11) (fn := Try.f11) Try.func11 rfl rfl (by simp) ?_
  refine zc_seq ?_
  refine zc_region ?_
  refine zl_pureL rfl ?_
  refine zl_nil ?_
  refine zk_seq ?_
  iterate 2 (refine zc_seq ?_)
  refine zc_region ?_
  refine zl_call (by first | exact want_none | exact want_L rfl) rfl (by decide) rfl known_calls ?_
  rintro _ w1 ⟨rfl, hC1⟩
  refine ⟨_, rfl, ?_⟩
  refine zl_pureL rfl ?_
  refine zl_nil ?_
  refine zk_seq ?_
  refine zc_false rfl ?_
  refine zc_skip ?_
  refine zk_seq ?_
  refine zc_seq ?_
  refine zc_region ?_
  refine zl_pureL rfl ?_
  refine zl_call (by first | exact want_none | exact want_L rfl) rfl (by decide) rfl (within_calls (n := 1114112) (by decide) (by decide)) ?_
  rintro _ w2 ⟨rfl, rfl⟩
  refine ⟨_, rfl, ?_⟩
  rw [show a % (1114112 : Nat) = (i : Int) from hi]
  refine zl_pureL rfl ?_
  refine zl_nil ?_
  refine zk_seq ?_
  refine zc_mid (fun u => u = w2 ∧ goodK (if (55296 ≤ i ∧ i ≤ 57343) ∨ i = 65279 then 19990 else i)) [(3, .int .i64 ((if (55296 ≤ i ∧ i ≤ 57343) ∨ i = 65279 then 19990 else i : Nat) : Int))] ?_ ?_
  · by_cases hq : (55296 ≤ i ∧ i ≤ 57343) ∨ i = 65279
    · rw [if_pos hq]
      rcases hq with ⟨q1, q2⟩ | q
      · refine zc_seq ?_
        refine zc_region ?_
        refine zl_pureL rfl ?_
        refine z_cmpB (r := true) want_none (by decide) rfl rfl rfl (iff_of_true rfl (by omega)) ?_
        iterate 2 (refine zl_pureL rfl ?_)
        refine z_cmpB (r := true) (want_L rfl) (by decide) rfl rfl rfl (iff_of_true rfl (by omega)) ?_
        iterate 3 (refine zl_pureL rfl ?_)
        refine zl_skip rfl ?_
        refine zl_pureL rfl ?_
        refine zl_nil ?_
        refine zk_seq ?_
        refine zc_true rfl ?_
        refine zc_region ?_
        refine zl_pureL rfl ?_
        refine zl_nil ?_
        exact zk_mid ⟨rfl, by unfold goodK; omega⟩ ⟨rfl, trivial⟩
      · subst q
        refine zc_seq ?_
        refine zc_region ?_
        refine zl_pureL rfl ?_
        refine z_cmpB (r := true) want_none (by decide) rfl rfl rfl (iff_of_true rfl (by omega)) ?_
        iterate 2 (refine zl_pureL rfl ?_)
        refine z_cmpB (r := false) (want_L rfl) (by decide) rfl rfl rfl (iff_of_false Bool.false_ne_true (by omega)) ?_
        iterate 3 (refine zl_pureL rfl ?_)
        refine z_cmpB (r := true) (want_L rfl) (by decide) rfl rfl rfl (iff_of_true rfl (by omega)) ?_
        refine zl_pureL rfl ?_
        refine zl_nil ?_
        refine zk_seq ?_
        refine zc_true rfl ?_
        refine zc_region ?_
        refine zl_pureL rfl ?_
        refine zl_nil ?_
        exact zk_mid ⟨rfl, by unfold goodK; omega⟩ ⟨rfl, trivial⟩
    · rw [if_neg hq]
      by_cases q1 : 55296 ≤ i
      · refine zc_seq ?_
        refine zc_region ?_
        refine zl_pureL rfl ?_
        refine z_cmpB (r := true) want_none (by decide) rfl rfl rfl (iff_of_true rfl (by omega)) ?_
        iterate 2 (refine zl_pureL rfl ?_)
        refine z_cmpB (r := false) (want_L rfl) (by decide) rfl rfl rfl (iff_of_false Bool.false_ne_true (by omega)) ?_
        iterate 3 (refine zl_pureL rfl ?_)
        refine z_cmpB (r := false) (want_L rfl) (by decide) rfl rfl rfl (iff_of_false Bool.false_ne_true (by omega)) ?_
        refine zl_pureL rfl ?_
        refine zl_nil ?_
        refine zk_seq ?_
        refine zc_false rfl ?_
        refine zc_skip ?_
        exact zk_mid ⟨rfl, by unfold goodK; omega⟩ ⟨rfl, trivial⟩
      · refine zc_seq ?_
        refine zc_region ?_
        refine zl_pureL rfl ?_
        refine z_cmpB (r := false) want_none (by decide) rfl rfl rfl (iff_of_false Bool.false_ne_true (by omega)) ?_
        iterate 2 (refine zl_pureL rfl ?_)
        refine zl_skip rfl ?_
        iterate 3 (refine zl_pureL rfl ?_)
        refine z_cmpB (r := false) (want_L rfl) (by decide) rfl rfl rfl (iff_of_false Bool.false_ne_true (by omega)) ?_
        refine zl_pureL rfl ?_
        refine zl_nil ?_
        refine zk_seq ?_
        refine zc_false rfl ?_
        refine zc_skip ?_
        exact zk_mid ⟨rfl, by unfold goodK; omega⟩ ⟨rfl, trivial⟩
  rintro u ⟨rfl, hk⟩
  generalize (if (55296 ≤ i ∧ i ≤ 57343) ∨ i = 65279 then 19990 else i) = k at hk ⊢
  obtain ⟨s1, s2, s3, s4, s5⟩ := signs hk
  have hk0 := hk.1
  refine zc_seq ?_
  refine zc_region ?_
  refine zl_pureL rfl ?_
  refine z_convI (j := k) (by first | exact want_none | exact want_L rfl) (by decide) rfl (wrap_i32 (by omega) (by omega)) ?_
  refine z_convS (by first | exact want_none | exact want_L rfl) (by decide) rfl ?_
  rw [encode_bs hk]
  generalize encN k = s at s1 s2 s3 s4 s5 ⊢
  refine zl_pureL rfl ?_
  refine zl_nil ?_
  refine zk_seq ?_
  iterate 2 (refine zc_seq ?_)
  refine zc_region ?_
  refine zl_pureL rfl ?_
  refine zl_call (by first | exact want_none | exact want_L rfl) rfl (by decide) rfl (whole_calls (l := s) (by omega)) ?_
  rintro _ w3 ⟨rfl, hC3⟩
  refine ⟨_, rfl, ?_⟩
  rw [s1]
  iterate 3 (refine zl_pureL rfl ?_)
  refine z_convSB (l := s) (by first | exact want_none | exact want_L rfl) (by decide) rfl (fun w4 b4 c4 z4 hb4 hC4 hB4 hc4 => ?_)
  refine zl_call (by first | exact want_none | exact want_L rfl) rfl (by decide) rfl (decode_calls (hB4.rb hc4) (by omega)) ?_
  rintro _ w5 ⟨rfl, hC5⟩
  refine ⟨_, rfl, ?_⟩
  rw [s2]
  have hC15 := ((hC1.no hC3).no hC4).no hC5
  refine zl_pureL rfl ?_
  refine z_neL (by first | exact want_none | exact want_L rfl) (by decide) rfl rfl (fun hn => absurd rfl hn) (fun _ => ?_)
  refine zl_pureL rfl ?_
  refine zl_nil ?_
  refine zk_seq ?_
  refine zc_false rfl ?_
  refine zc_skip ?_
  refine zk_seq ?_
  iterate 2 (refine zc_seq ?_)
  refine zc_region ?_
  refine zl_pureL rfl ?_
  refine z_lenL want_none (by decide) rfl ?_
  by_cases h1 : s.length = 1
  · refine z_cmpB (r := true) want_none (by decide) rfl rfl rfl (iff_of_true rfl (by omega)) ?_
    refine zl_nil ?_
    refine zk_seq ?_
    refine zc_true rfl ?_
    refine zc_seq ?_
    refine zc_region ?_
    refine zl_pureL rfl ?_
    refine zl_nil ?_
    refine zk_seq ?_
    refine zc_ret ?_
    refine zk_ret_then ?_
    exact zk_ret1 (.inr rfl) rfl rfl ⟨rfl, hC15.below⟩
  have sg := s5 h1
  have hcl : (s.take (s.length - 1)).length = s.length - 1 := by rw [List.length_take]; omega
  refine z_cmpB (r := false) want_none (by decide) rfl rfl rfl (iff_of_false Bool.false_ne_true (by omega)) ?_
  refine zl_nil ?_
  refine zk_seq ?_
  refine zc_false rfl ?_
  refine zc_skip ?_
  refine zk_seq ?_
  refine zc_seq ?_
  refine zc_region ?_
  iterate 2 (refine zl_pureL rfl ?_)
  refine z_lenL want_none (by decide) rfl ?_
  refine z_sub want_none (by decide) rfl rfl (by omega) (by omega) ?_
  refine z_cutN 0 (s.length - 1) (by first | exact want_none | exact want_L rfl) (by decide) rfl rfl rfl rfl (by omega) (Nat.zero_le _) (by omega) ?_
  rw [show (s.drop 0).take (s.length - 1 - 0) = s.take (s.length - 1) from rfl]
  refine zl_pureL rfl ?_
  refine zl_nil ?_
  refine zk_seq ?_
  refine zc_seq ?_
  refine zc_region ?_
  refine zl_pureL rfl ?_
  refine zl_call (by first | exact want_none | exact want_L rfl) rfl (by decide) rfl (whole_calls (l := s.take (s.length - 1)) (by omega)) ?_
  rintro _ w6 ⟨rfl, hC6⟩
  refine ⟨_, rfl, ?_⟩
  rw [sg.cut]
  iterate 3 (refine zl_pureL rfl ?_)
  refine z_convSB (l := s.take (s.length - 1)) (by first | exact want_none | exact want_L rfl) (by decide) rfl (fun w7 b7 c7 z7 hb7 hC7 hB7 hc7 => ?_)
  refine zl_call (by first | exact want_none | exact want_L rfl) rfl (by decide) rfl (decode_calls (hB7.rb hc7) (by omega)) ?_
  rintro _ w8 ⟨rfl, hC8⟩
  refine ⟨_, rfl, ?_⟩
  rw [sg.lost]
  refine z_eqLB (q := true) (by first | exact want_none | exact want_L rfl) (by decide) rfl rfl (iff_of_true rfl rfl) ?_
  iterate 3 (refine zl_pureL rfl ?_)
  refine z_catL (r := [97]) (by first | exact want_none | exact want_L rfl) (by decide) rfl rfl (by simp; omega) ?_
  refine z_convSB (l := s.take (s.length - 1) ++ [97]) (by first | exact want_none | exact want_L rfl) (by decide) rfl (fun w9 b9 c9 z9 hb9 hC9 hB9 hc9 => ?_)
  refine zl_call (by first | exact want_none | exact want_L rfl) rfl (by decide) rfl (decode_calls (hB9.rb hc9) (by rw [List.length_append]; simp; omega)) ?_
  rintro _ w10 ⟨rfl, hC10⟩
  refine ⟨_, rfl, ?_⟩
  rw [sg.losta]
  refine z_eqLB (q := true) (by first | exact want_none | exact want_L rfl) (by decide) rfl rfl (iff_of_true rfl rfl) ?_
  iterate 3 (refine zl_pureL rfl ?_)
  refine z_cutN 1 s.length (by first | exact want_none | exact want_L rfl) (by decide) rfl rfl rfl rfl rfl s3 (Nat.le_refl _) ?_
  rw [show (s.drop 1).take (s.length - 1) = s.drop 1 from List.take_of_length_le (Nat.le_of_eq (List.length_drop ..))]
  refine zl_call (by first | exact want_none | exact want_L rfl) rfl (by decide) rfl (whole_calls (l := s.drop 1) (by rw [List.length_drop]; omega)) ?_
  rintro _ w11 ⟨rfl, hC11⟩
  refine ⟨_, rfl, ?_⟩
  rw [sg.tail]
  iterate 3 (refine zl_pureL rfl ?_)
  refine zl_nil ?_
  refine zk_seq ?_
  refine zc_ret ?_
  exact zk_ret1 (.inr rfl) rfl rfl ⟨rfl, ((((((hC15.no hC6).no hC7).no hC8).no hC9).no hC10).no hC11).below⟩
end Go.Proofs.Ytmhbdalemgmfcaa.T
