import Derived.Test.YtmhbdalemgmfcaaTLaw0
/- TextKnown, TextDecodes, TextWholes, TextJoins: the plain laws, the walks. -/
namespace Go.Proofs.Ytmhbdalemgmfcaa.T
open Go Go.Z Go.Proofs
set_option linter.unusedVariables false
/-! a whole sign stays one, whatever follows -/
theorem contS_congr (s s' : List UInt8) (n : Nat) (hb : ∀ j, j < n → byteL s j = byteL s' j) (hl : n ≤ s.length) (hl' : n ≤ s'.length) : ∀ f k lo hi, contS s n f k lo hi = contS s' n f k lo hi
  | 0, k, _, _ => rfl
  | f + 1, k, lo, hi => by
    unfold contS
    by_cases hk : k < n
    · rw [hb k hk, contS_congr s s' n hb hl hl' f (k + 1) 128 191]
      have e1 : (k < s.length) = True := eq_true (by omega)
      have e2 : (k < s'.length) = True := eq_true (by omega)
      simp only [e1, e2]
    · rw [if_neg (fun h => hk h.1), if_neg (fun h => hk h.1)]
theorem byteL_app (s t : List UInt8) (n j : Nat) (hj : j < n) (hn : n ≤ s.length) : byteL (s.take n ++ t) j = byteL s j := by
  unfold byteL
  rw [List.getD_eq_getElem?_getD, List.getD_eq_getElem?_getD, List.getElem?_append_left (by simp; omega), List.getElem?_take, if_pos hj]
theorem sign_app {s : List UInt8} (t : List UInt8) (hne : s ≠ []) (h : okS s = true) : okS (s.take (sizeS s) ++ t) = true ∧ sizeS (s.take (sizeS s) ++ t) = sizeS s ∧ s.take (sizeS s) ++ t ≠ [] := by
  have h1 := okS_size h
  have hle := sizeS_le s hne
  have h0 : byteL (s.take (sizeS s) ++ t) 0 = byteL s 0 := byteL_app s t _ 0 (by omega) hle.1
  have hn : sizeS s = (leadN (byteL s 0)).1 := by unfold okS at h; simp at h; exact h.2
  have hsz : sizeS (s.take (sizeS s) ++ t) = sizeS s := by
    have hgen : ∀ u : List UInt8, byteL u 0 = byteL s 0 → sizeS u = contS u (leadN (byteL s 0)).1 ((leadN (byteL s 0)).1 - 1) 1 (leadN (byteL s 0)).2.1 (leadN (byteL s 0)).2.2 := by
      intro u hu
      unfold sizeS
      rw [hu]
      exact if_neg (by omega)
    rw [hgen _ h0]
    refine Eq.trans ?_ (hgen s rfl).symm
    refine contS_congr _ _ _ (fun j hj => byteL_app s t _ j (by omega) hle.1) ?_ (by omega) _ _ _ _
    rw [List.length_append, List.length_take]; omega
  refine ⟨?_, hsz, fun he => ?_⟩
  rotate_left
  · have := congrArg List.length he
    rw [List.length_append, List.length_take, List.length_nil] at this
    omega
  unfold okS at h ⊢
  rw [hsz, h0]; exact h
theorem whole_app {s : List UInt8} (t : List UInt8) (hne : s ≠ []) (h : okS s = true) : whole (s.take (sizeS s) ++ t) = whole t := by
  obtain ⟨h1, h2, hN⟩ := sign_app t hne h
  have hle := sizeS_le s hne
  rw [whole_cons _ hN, h1, h2, Bool.true_and]
  congr 1
  rw [List.drop_append_of_le_length (by rw [List.length_take]; omega), List.drop_eq_nil_of_le (by rw [List.length_take]; omega)]; rfl
theorem dec_app {s : List UInt8} (t : List UInt8) (hne : s ≠ []) (h : okS s = true) : dec (s.take (sizeS s) ++ t) = s.take (sizeS s) ++ dec t := by
  obtain ⟨h1, h2, hN⟩ := sign_app t hne h
  have hle := sizeS_le s hne
  have h3 := okS_size h
  have hl : (s.take (sizeS s)).length = sizeS s := by rw [List.length_take]; omega
  rw [dec_cons _ hN, h2, show max (sizeS s) 1 = sizeS s by omega]
  unfold pieceS
  rw [if_pos h1, h2, List.take_append_of_le_length (by omega), List.take_of_length_le (by omega), List.drop_append_of_le_length (by omega), List.drop_eq_nil_of_le (by omega)]
  rfl
theorem lost_ok : okS lost = true ∧ sizeS lost = 3 := by decide
theorem whole_lost (t : List UInt8) : whole (lost ++ t) = whole t := by
  have := whole_app (s := lost) t (by decide) lost_ok.1
  rw [lost_ok.2] at this
  exact this
theorem whole_dec : ∀ (n : Nat) (s : List UInt8), s.length ≤ n → whole (dec s) = true
  | 0, s, h => by
    have : s = [] := List.eq_nil_of_length_eq_zero (by omega)
    subst this; rfl
  | n + 1, s, h => by
    by_cases hs : s = []
    · subst hs; rfl
    · have hle := sizeS_le s hs
      have hl : 1 ≤ s.length := by cases s <;> simp_all
      rw [dec_cons s hs]
      have ih := whole_dec n (s.drop (max (sizeS s) 1)) (by rw [List.length_drop]; omega)
      unfold pieceS
      cases hok : okS s
      · rw [if_neg Bool.false_ne_true, whole_lost]; exact ih
      · rw [if_pos rfl, whole_app _ hs hok]; exact ih
/-- what is whole: sign by sign -/
theorem whole_split {s : List UInt8} (hs : s ≠ []) (h : whole s = true) : okS s = true ∧ whole (s.drop (sizeS s)) = true ∧ s = s.take (sizeS s) ++ s.drop (sizeS s) := by
  rw [whole_cons s hs] at h
  simp only [Bool.and_eq_true] at h
  exact ⟨h.1, h.2, (List.take_append_drop _ _).symm⟩
theorem joins : ∀ (n : Nat) (a b : List UInt8), a.length ≤ n → whole a = true → dec (a ++ b) = a ++ dec b ∧ whole (a ++ b) = whole b
  | 0, a, b, h, hw => by
    have : a = [] := List.eq_nil_of_length_eq_zero (by omega)
    subst this; exact ⟨rfl, rfl⟩
  | n + 1, a, b, h, hw => by
    by_cases ha : a = []
    · subst ha; exact ⟨rfl, rfl⟩
    · obtain ⟨h1, h2, h3⟩ := whole_split ha hw
      have hs := okS_size h1
      obtain ⟨g1, g2⟩ := joins n (a.drop (sizeS a)) b (by rw [List.length_drop]; omega) h2
      have e : a ++ b = a.take (sizeS a) ++ (a.drop (sizeS a) ++ b) := by rw [← List.append_assoc, List.take_append_drop]
      rw [e, dec_app _ ha h1, whole_app _ ha h1, g1, g2, ← List.append_assoc, List.take_append_drop]
      exact ⟨rfl, rfl⟩
theorem dec_whole {a : List UInt8} (hw : whole a = true) : dec a = a := by
  have := (joins a.length a [] (Nat.le_refl _) hw).1
  rw [List.append_nil, dec_nil, List.append_nil] at this; exact this
theorem begins_bom (l : List UInt8) : beginsN l bom = decide (l.take 3 = bom) := rfl
theorem decode_whole {a : List UInt8} (hw : whole a = true) (hb : ¬ a.take 3 = bom) : decode a = a := by
  unfold decode stripN
  rw [if_neg hb]; exact dec_whole hw
theorem decode_no {a : List UInt8} (hb : ¬ a.take 3 = bom) : decode a = dec a := by
  unfold decode stripN
  rw [if_neg hb]
theorem bom_app {a b : List UInt8} (hw : whole a = true) (ha : ¬ a.take 3 = bom) (hb : ¬ b.take 3 = bom) : ¬ (a ++ b).take 3 = bom := by
  by_cases hn : a = []
  · subst hn; exact hb
  · intro h
    obtain ⟨h3, b0, b1, b2⟩ := (take3 _).1 h
    have hl : 1 ≤ a.length := by cases a <;> simp_all
    have e0 : byteL a 0 = 239 := by rw [← b0]; simp [byteL, List.getD_eq_getElem?_getD, List.getElem?_append_left hl]
    obtain ⟨h1, _, _⟩ := whole_split hn hw
    have hle := sizeS_le a hn
    have hn3 : sizeS a = 3 := by
      unfold okS at h1
      rw [e0] at h1
      simp at h1
      exact h1.2.trans (by decide)
    refine ha ?_
    rw [List.take_append_of_le_length (by omega)] at h
    exact h
theorem dec_len : ∀ (n : Nat) (s : List UInt8), s.length ≤ n → (dec s).length ≤ 3 * s.length
  | 0, s, h => by
    have : s = [] := List.eq_nil_of_length_eq_zero (by omega)
    subst this; exact Nat.le_refl _
  | n + 1, s, h => by
    by_cases hs : s = []
    · subst hs; exact Nat.le_refl _
    · have hl : 1 ≤ s.length := by cases s <;> simp_all
      have := piece_len s hs
      have hle := sizeS_le s hs
      have h2 := dec_len n (s.drop (max (sizeS s) 1)) (by rw [List.length_drop]; omega)
      rw [dec_cons s hs, List.length_append]
      rw [List.length_drop] at h2
      omega
theorem decode_len (l : List UInt8) : (decode l).length ≤ 3 * l.length := by
  have := dec_len _ (stripN l) (Nat.le_refl _)
  have h2 : (stripN l).length ≤ l.length := by unfold stripN; split; rw [List.length_drop]; omega; exact Nat.le_refl _
  unfold decode; omega
theorem TextDecodes_walk (a : Option Addr) (len cap : Nat) (zs : List Int) (w : World) (hr : IsRow .u8 w a len cap zs) : Calls Try.prog 9 #[.slice a len cap] w fun e w' => e = .returned (.bool true) ∧ RowKit.Below w.heap.size w w' := by
  obtain ⟨l, rfl, hR⟩ := hr.rb
  show Calls Try.prog 9 [Value.slice a l.length cap].toArray w _
  refine calls_zc (n := 20) (f := 9) (fn := Try.f9) Try.func9 rfl rfl (by simp) ?_
  refine zc_seq ?_
  refine zc_region ?_
  refine zl_pureL rfl ?_
  refine zl_nil ?_
  refine zk_seq ?_
  iterate 2 (refine zc_seq ?_)
  refine zc_region ?_
  refine zl_call (by first | exact want_none | exact want_L rfl) rfl (by decide) rfl known_calls ?_
  rintro _ w1 ⟨rfl, hC1⟩
  refine ⟨_, rfl, ?_⟩
  by_cases hl : l.length > 3000
  · refine zl_pureL rfl ?_
    refine zl_nil ?_
    refine zk_seq ?_
    refine zc_false rfl ?_
    refine zc_skip ?_
    refine zk_seq ?_
    iterate 2 (refine zc_seq ?_)
    refine zc_region ?_
    refine zl_pureL rfl ?_
    refine z_len want_none (by decide) rfl ?_
    refine z_cmpB (r := true) want_none (by decide) rfl rfl rfl (iff_of_true rfl (by omega)) ?_
    refine zl_nil ?_
    refine zk_seq ?_
    refine zc_true rfl ?_
    refine zc_seq ?_
    refine zc_region ?_
    refine zl_pureL rfl ?_
    refine zl_nil ?_
    refine zk_seq ?_
    refine zc_ret ?_
    refine zk_ret_then ?_
    exact zk_ret1 (.inr rfl) rfl rfl ⟨rfl, hC1.below⟩
  · have hR1 := hR.no hC1
    have hdl := decode_len l
    have hwd : whole (decode l) = true := whole_dec _ (stripN l) (Nat.le_refl _)
    refine zl_pureL rfl ?_
    refine zl_nil ?_
    refine zk_seq ?_
    refine zc_false rfl ?_
    refine zc_skip ?_
    refine zk_seq ?_
    iterate 2 (refine zc_seq ?_)
    refine zc_region ?_
    refine zl_pureL rfl ?_
    refine z_len want_none (by decide) rfl ?_
    refine z_cmpB (r := false) want_none (by decide) rfl rfl rfl (iff_of_false Bool.false_ne_true (by omega)) ?_
    refine zl_nil ?_
    refine zk_seq ?_
    refine zc_false rfl ?_
    refine zc_skip ?_
    refine zk_seq ?_
    refine zc_seq ?_
    refine zc_region ?_
    refine zl_pureL rfl ?_
    refine zl_call (by first | exact want_none | exact want_L rfl) rfl (by decide) rfl (decode_calls hR1 (by omega)) ?_
    rintro _ w2 ⟨rfl, hC2⟩
    refine ⟨_, rfl, ?_⟩
    refine zl_pureL rfl ?_
    refine zl_nil ?_
    refine zk_seq ?_
    refine zc_seq ?_
    refine zc_region ?_
    iterate 2 (refine zl_pureL rfl ?_)
    refine z_convBS (by first | exact want_none | exact want_L rfl) (by decide) rfl (hR1.no hC2) ?_
    refine zl_call (by first | exact want_none | exact want_L rfl) rfl (by decide) rfl (decodeR_calls (l := l) (by omega)) ?_
    rintro _ w3 ⟨rfl, rfl⟩
    refine ⟨_, rfl, ?_⟩
    refine z_eqLB (q := true) (by first | exact want_none | exact want_L rfl) (by decide) rfl rfl (iff_of_true rfl rfl) ?_
    iterate 2 (refine zl_pureL rfl ?_)
    refine zl_call (by first | exact want_none | exact want_L rfl) rfl (by decide) rfl (whole_calls (l := decode l) (by omega)) ?_
    rintro _ w4 ⟨rfl, hC4⟩
    refine ⟨_, rfl, ?_⟩
    rw [hwd]
    iterate 2 (refine zl_pureL rfl ?_)
    refine zl_nil ?_
    refine zk_seq ?_
    refine zc_ret ?_
    exact zk_ret1 (.inr rfl) rfl rfl ⟨rfl, ((hC1.no hC2).no hC4).below⟩
theorem TextWholes_walk (a : ByteArray) (w : World) : Calls Try.prog 10 #[.string a] w fun e w' => e = .returned (.bool true) ∧ RowKit.Below w.heap.size w w' := by
  obtain ⟨l, rfl⟩ := bs_ex a
  show Calls Try.prog 10 [Value.string (bs l)].toArray w _
  refine calls_zc (n := 28) (f := 10) (fn := Try.f10) Try.func10 rfl rfl (by simp) ?_
  refine zc_seq ?_
  refine zc_region ?_
  refine zl_pureL rfl ?_
  refine zl_nil ?_
  refine zk_seq ?_
  iterate 2 (refine zc_seq ?_)
  refine zc_region ?_
  refine zl_call (by first | exact want_none | exact want_L rfl) rfl (by decide) rfl known_calls ?_
  rintro _ w1 ⟨rfl, hC1⟩
  refine ⟨_, rfl, ?_⟩
  by_cases hl : l.length > 3000
  · refine zl_pureL rfl ?_
    refine zl_nil ?_
    refine zk_seq ?_
    refine zc_false rfl ?_
    refine zc_skip ?_
    refine zk_seq ?_
    iterate 2 (refine zc_seq ?_)
    refine zc_region ?_
    refine zl_pureL rfl ?_
    refine z_lenL want_none (by decide) rfl ?_
    refine z_cmpB (r := true) want_none (by decide) rfl rfl rfl (iff_of_true rfl (by omega)) ?_
    refine zl_nil ?_
    refine zk_seq ?_
    refine zc_true rfl ?_
    refine zc_seq ?_
    refine zc_region ?_
    refine zl_pureL rfl ?_
    refine zl_nil ?_
    refine zk_seq ?_
    refine zc_ret ?_
    refine zk_ret_then ?_
    exact zk_ret1 (.inr rfl) rfl rfl ⟨rfl, hC1.below⟩
  · refine zl_pureL rfl ?_
    refine zl_nil ?_
    refine zk_seq ?_
    refine zc_false rfl ?_
    refine zc_skip ?_
    refine zk_seq ?_
    iterate 2 (refine zc_seq ?_)
    refine zc_region ?_
    refine zl_pureL rfl ?_
    refine z_lenL want_none (by decide) rfl ?_
    refine z_cmpB (r := false) want_none (by decide) rfl rfl rfl (iff_of_false Bool.false_ne_true (by omega)) ?_
    refine zl_nil ?_
    refine zk_seq ?_
    refine zc_false rfl ?_
    refine zc_skip ?_
    refine zk_seq ?_
    refine zc_seq ?_
    refine zc_region ?_
    refine zl_pureL rfl ?_
    refine zl_call (by first | exact want_none | exact want_L rfl) rfl (by decide) rfl (whole_calls (l := l) (by omega)) ?_
    rintro _ w2 ⟨rfl, hC2⟩
    refine ⟨_, rfl, ?_⟩
    refine zl_pureL rfl ?_
    refine zl_nil ?_
    refine zk_seq ?_
    iterate 2 (refine zc_seq ?_)
    refine zc_region ?_
    iterate 2 (refine zl_pureL rfl ?_)
    refine zl_call (by first | exact want_none | exact want_L rfl) rfl (by decide) rfl (wholeR_calls (l := l) (by omega)) ?_
    rintro _ w3 ⟨rfl, rfl⟩
    refine ⟨_, rfl, ?_⟩
    refine z_neT (by first | exact want_none | exact want_L rfl) (by decide) rfl rfl ?_
    rw [show (!(whole l == whole l)) = false by simp]
    refine zl_nil ?_
    refine zk_seq ?_
    refine zc_false rfl ?_
    refine zc_skip ?_
    refine zk_seq ?_
    refine zc_seq ?_
    refine zc_region ?_
    refine zl_pureL rfl ?_
    cases hw : whole l
    · iterate 3 (refine zl_pureL rfl ?_)
      refine zl_skip rfl ?_
      iterate 3 (refine zl_pureL rfl ?_)
      iterate 2 (refine zl_skip rfl ?_)
      refine zl_pureL rfl ?_
      refine zl_skip rfl ?_
      iterate 2 (refine zl_pureL rfl ?_)
      refine zl_nil ?_
      refine zk_seq ?_
      refine zc_ret ?_
      exact zk_ret1 (.inr rfl) rfl rfl ⟨rfl, (hC1.no hC2).below⟩
    · iterate 3 (refine zl_pureL rfl ?_)
      refine zl_call (by first | exact want_none | exact want_L rfl) rfl (by decide) rfl (begins_calls l bom (by omega) (by decide)) ?_
      rintro _ w4 ⟨rfl, rfl⟩
      refine ⟨_, rfl, ?_⟩
      rw [begins_bom]
      by_cases hb : l.take 3 = bom
      · rw [decide_eq_true hb]
        iterate 3 (refine zl_pureL rfl ?_)
        iterate 2 (refine zl_skip rfl ?_)
        refine zl_pureL rfl ?_
        refine zl_skip rfl ?_
        iterate 2 (refine zl_pureL rfl ?_)
        refine zl_nil ?_
        refine zk_seq ?_
        refine zc_ret ?_
        exact zk_ret1 (.inr rfl) rfl rfl ⟨rfl, (hC1.no hC2).below⟩
      · rw [decide_eq_false hb]
        iterate 3 (refine zl_pureL rfl ?_)
        refine z_convSB (by first | exact want_none | exact want_L rfl) (by decide) rfl (fun w5 b c z hb5 hC5 hB hc => ?_)
        refine zl_call (by first | exact want_none | exact want_L rfl) rfl (by decide) rfl (decode_calls (hB.rb hc) (by omega)) ?_
        rintro _ w6 ⟨rfl, hC6⟩
        refine ⟨_, rfl, ?_⟩
        rw [decode_whole hw hb]
        refine zl_pureL rfl ?_
        refine z_eqLB (q := true) (by first | exact want_none | exact want_L rfl) (by decide) rfl rfl (iff_of_true rfl rfl) ?_
        iterate 2 (refine zl_pureL rfl ?_)
        refine zl_nil ?_
        refine zk_seq ?_
        refine zc_ret ?_
        exact zk_ret1 (.inr rfl) rfl rfl ⟨rfl, (((hC1.no hC2).no hC5).no hC6).below⟩
end Go.Proofs.Ytmhbdalemgmfcaa.T
