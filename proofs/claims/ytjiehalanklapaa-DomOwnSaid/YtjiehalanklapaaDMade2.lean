import Derived.Test.YtjiehalanklapaaDMade
import Derived.Test.YtjiehalanklapaaDKn
/- Nodes made of a tape are sound, not too many; DomMade: the walk. -/
namespace Go.Proofs.Ytjiehalanklapaa.D
open Go Go.Z Go.Proofs
set_option linter.unusedVariables false
theorem bs_ne {l : List UInt8} (h : l ≠ []) : bs l ≠ ⟨#[]⟩ := fun he => h (bs_inj.1 (he.trans (show (⟨#[]⟩ : ByteArray) = bs [] from rfl)))
theorem txT_ne : ∀ i, txT i ≠ ⟨#[]⟩ := by
  intro i
  unfold txT
  split <;> simp
theorem elS_lt (zs : List Int) (len a : Nat) : 1 ≤ (elS zs len a).1 ∧ (elS zs len a).1 ≤ 3 := by
  unfold elS
  have := nx_lt zs len (nx zs len a 6).2 3 (by decide)
  split
  · show 1 ≤ 1 + _ ∧ 1 + _ ≤ 3; omega
  · show 1 ≤ 1 ∧ 1 ≤ 3; decide
theorem elC_form (zs : List Int) (len a : Nat) : (elC zs len a).1 = [] ∨ ∃ v, (elC zs len a).1 = [(sCl, v)] := by
  unfold elC; split
  · exact .inr ⟨_, rfl⟩
  · exact .inl rfl
theorem elH_form (zs : List Int) (len a : Nat) : (elH zs len a).1 = [] ∨ ∃ v, (elH zs len a).1 = [(sHr, v)] := by
  unfold elH; split
  · exact .inr ⟨_, rfl⟩
  · exact .inl rfl
theorem Tw.le1 {l : List At} (h : l.length ≤ 1) : ¬ Tw l := by
  rintro ⟨i, k, h1, h2, _⟩; omega
theorem Tw.two {a b : At} (h : a.1 ≠ b.1) : ¬ Tw [a, b] := by
  rintro ⟨i, k, h1, h2, h3⟩
  have : i = 1 := by simp at h2; omega
  subst this
  have : k = 0 := by omega
  subst this
  exact h h3.symm
theorem elT_sound (zs : List Int) (len a : Nat) (k : NT) : sound1 (elT zs len a).1 k ∧ (elT zs len a).1.kind = 1 ∧ (elT zs len a).1.attrs.length ≤ 2 := by
  have h1 := elS_lt zs len (nx zs len a 24).2
  have h2 := elC_form zs len (elS zs len (nx zs len a 24).2).2
  have h3 := elH_form zs len (elC zs len (elS zs len (nx zs len a 24).2).2).2
  have h4 := nx_lt zs len a 24 (by decide)
  have hl : ((elC zs len (elS zs len (nx zs len a 24).2).2).1 ++ (elH zs len (elC zs len (elS zs len (nx zs len a 24).2).2).2).1).length ≤ 2 ∧ ¬ Tw ((elC zs len (elS zs len (nx zs len a 24).2).2).1 ++ (elH zs len (elC zs len (elS zs len (nx zs len a 24).2).2).2).1) := by
    rcases h2 with h2 | ⟨v, h2⟩ <;> rcases h3 with h3 | ⟨v', h3⟩ <;> rw [h2, h3]
    · exact ⟨by decide, Tw.le1 (by decide)⟩
    · exact ⟨by simp, Tw.le1 (by simp)⟩
    · exact ⟨by simp, Tw.le1 (by simp)⟩
    · exact ⟨by simp, Tw.two (by simp [sCl, sHr])⟩
  refine ⟨.inl ⟨rfl, ?_, ?_, bs_ne (mdN_ne _ h4), rfl, rfl, hl.2⟩, rfl, hl.1⟩
  · show (1 : Int) ≤ ((elS zs len (nx zs len a 24).2).1 : Nat); omega
  · show (((elS zs len (nx zs len a 24).2).1 : Nat) : Int) ≤ 3; omega
theorem items_sound {zs : List Int} {len : Nat} {rec : Nat → NT × Nat} (hr : ∀ a, SoundF false (rec a).1 ∧ FewT (rec a).1) : ∀ (m : Nat) (pt : Bool) (a : Nat), SoundF pt (itemsT zs len rec m pt a).1 ∧ FewT (itemsT zs len rec m pt a).1
  | 0, pt, a => ⟨trivial, trivial⟩
  | m + 1, pt, a => by
    unfold itemsT
    split
    · split
      · rename_i h
        have ih := items_sound (zs := zs) (len := len) hr m true (nx zs len (nx zs len a 6).2 8).2
        exact ⟨⟨.inr (.inl ⟨rfl, rfl, rfl, rfl, rfl, txT_ne _, Int.le_refl _⟩), trivial, fun hh => by rw [h.2] at hh; exact absurd hh.1 (by decide), ih.1⟩, Nat.zero_le _, trivial, ih.2⟩
      · split
        · have ih := items_sound (zs := zs) (len := len) hr m false (nx zs len (nx zs len a 6).2 2).2
          exact ⟨⟨.inr (.inr ⟨rfl, rfl, rfl, rfl, rfl, rfl⟩), trivial, fun hh => absurd hh.2 (by show ¬ (3 : Int) = 2; decide), ih.1⟩, Nat.zero_le _, trivial, ih.2⟩
        · have he := elT_sound zs len (nx zs len a 6).2 (rec (elT zs len (nx zs len a 6).2).2).1
          have ih := items_sound (zs := zs) (len := len) hr m false (rec (elT zs len (nx zs len a 6).2).2).2
          have hk := hr (elT zs len (nx zs len a 6).2).2
          exact ⟨⟨he.1, hk.1, fun hh => by rw [he.2.1] at hh; exact absurd hh.2 (by decide), by rw [he.2.1]; exact ih.1⟩, by have := he.2.2; omega, hk.2, ih.2⟩
    · exact ⟨trivial, trivial⟩
theorem items_size {zs : List Int} {len K : Nat} {rec : Nat → NT × Nat} (hr : ∀ a, (rec a).1.size ≤ K) : ∀ (m : Nat) (pt : Bool) (a : Nat), (itemsT zs len rec m pt a).1.size ≤ m * (K + 1)
  | 0, pt, a => Nat.zero_le _
  | m + 1, pt, a => by
    have e : (m + 1) * (K + 1) = m * (K + 1) + (K + 1) := Nat.succ_mul _ _
    unfold itemsT
    split
    · split
      · have ih := items_size (zs := zs) (len := len) hr m true (nx zs len (nx zs len a 6).2 8).2
        simp only [NT.size]; omega
      · split
        · have ih := items_size (zs := zs) (len := len) hr m false (nx zs len (nx zs len a 6).2 2).2
          simp only [NT.size]; omega
        · have ih := items_size (zs := zs) (len := len) hr m false (rec (elT zs len (nx zs len a 6).2).2).2
          have hk := hr (elT zs len (nx zs len a 6).2).2
          simp only [NT.size]; omega
    · exact Nat.zero_le _
theorem made_sound {zs : List Int} {len : Nat} : ∀ (d a : Nat), SoundF false (madeT zs len d a).1 ∧ FewT (madeT zs len d a).1
  | 0, a => items_sound (rec := fun a => (.nil, a)) (fun a => ⟨trivial, trivial⟩) _ _ _
  | d + 1, a => items_sound (fun a => made_sound d a) _ _ _
def sizeD : Nat → Nat
  | 0 => 4
  | d + 1 => 4 * (sizeD d + 1)
theorem made_size {zs : List Int} {len : Nat} : ∀ (d a : Nat), (madeT zs len d a).1.size ≤ sizeD d
  | 0, a => by
    have h1 := nx_lt zs len a 4 (by decide)
    have h2 := items_size (zs := zs) (len := len) (K := 0) (rec := fun a => (.nil, a)) (fun a => Nat.le_refl _) (1 + (nx zs len a 4).1) false (nx zs len a 4).2
    show _ ≤ 4
    unfold madeT
    omega
  | d + 1, a => by
    have h1 := nx_lt zs len a 4 (by decide)
    have h2 := items_size (zs := zs) (len := len) (K := sizeD d) (rec := madeT zs len d) (fun a => made_size d a) (1 + (nx zs len a 4).1) false (nx zs len a 4).2
    have h3 : (1 + (nx zs len a 4).1) * (sizeD d + 1) ≤ 4 * (sizeD d + 1) := Nat.mul_le_mul_right _ (by omega)
    show _ ≤ 4 * (sizeD d + 1)
    unfold madeT
    omega
theorem made_size6 {zs : List Int} {len a : Nat} : (madeT zs len 6 a).1.size ≤ 22000 := Nat.le_trans (made_size 6 a) (by decide)
theorem sound1_len {x : Hd} {k k' : NT} (h : sound1 x k) (he : k'.len = k.len) : sound1 x k' := by
  unfold sound1 at *; rw [he]; exact h
theorem numT_len : ∀ (n : Nat) (t : NT), (numT n t).1.len = t.len
  | n, .nil => rfl
  | n, .cons x k r => by simp only [numT, NT.len, numT_len]
theorem numT_sound : ∀ (n : Nat) (p : Bool) (t : NT), SoundF p t → SoundF p (numT n t).1
  | n, p, .nil, _ => trivial
  | n, p, .cons x k r, h => by
    obtain ⟨h1, h2, h3, h4⟩ := h
    refine ⟨?_, numT_sound _ _ k h2, by rw [numH_kind]; exact h3, by rw [numH_kind]; exact numT_sound _ _ r h4⟩
    have h5 := sound1_len h1 (numT_len (nxt n x) k)
    by_cases hk : x.kind = 2
    · unfold numH
      rw [if_pos hk]
      rcases h5 with h5 | h5 | h5
      · omega
      · exact .inr (.inl ⟨h5.1, h5.2.1, h5.2.2.1, h5.2.2.2.1, h5.2.2.2.2.1, h5.2.2.2.2.2.1, Int.natCast_nonneg n⟩)
      · omega
    · unfold numH; rw [if_neg hk]; exact h5
theorem Made_calls {w0 w : World} {a : Option Addr} {len cap : Nat} {zs : List Int} (hr : IsRow .i64 w0 a len cap zs) (hC : Chg w0 w No) :
    Calls Try.prog 29 [.slice a len cap].toArray w fun e w' => ∃ vo, e = .returned vo ∧ TreeOk w' (fun b => w.heap.size ≤ b) (fun b => w.heap.size ≤ b) vo (madeT zs len 6 0).1 ∧ Chg w w' No := by
  refine calls_zc (n := 7) (f := 29) (fn := Try.f29) Try.func29 rfl rfl (by simp) ?_
  refine zc_seq ?_
  refine zc_region ?_
  refine zl_pureL rfl ?_
  refine zl_nil ?_
  refine zk_seq ?_
  refine zc_seq ?_
  refine zc_region ?_
  refine zl_pureL rfl ?_
  refine z_buildE #[.slice a len cap, .int .i64 0] (by first | exact want_none | exact want_L rfl) (by decide) rfl (by kernel_rfl) ?_
  refine z_box (by first | exact want_none | exact want_L rfl) (by decide) rfl (fun w1 b1 hN1 => ?_)
  have hT : Tp w0 w1 b1 a len cap zs 0 := ⟨hN1.blk, hr, hC.no hN1.chg, hN1.ge hC, Nat.zero_le _⟩
  skip
  refine zl_call (by first | exact want_none | exact want_L rfl) rfl (by decide) rfl (made_calls 6 (lv := 0) rfl hT) ?_
  rintro _ w2 ⟨vo, rfl, hk, _, hC2⟩
  refine ⟨_, rfl, ?_⟩
  have hge := hN1.ge (Chg.refl w No)
  have hs := hN1.chg.size
  refine zl_pureL rfl ?_
  refine zl_nil ?_
  refine zk_seq ?_
  refine zc_ret ?_
  exact zk_ret1 (.inr rfl) rfl rfl ⟨_, rfl, hk.mono (fun b _ hb => Nat.le_trans hs hb) (fun b _ hb => Nat.le_trans hs hb), hN1.chg.trans hC2 (fun i hi he => by omega)⟩
theorem Rows.node {w : World} {k s : Int} {nm tx : ByteArray} {fr : Int} {va K : Value} {l : List At} {kt r : NT} {q : List MN} (ha : AttrS w va l) (hk : TreeAt w K kt) (h : Rows w r q) : Rows w (.cons ⟨k, s, nm, l, tx, fr⟩ kt r) (⟨k, s, nm, va, tx, fr, K⟩ :: q) :=
  ⟨_, _, rfl, ⟨rfl, rfl, rfl, ha, rfl, rfl⟩, hk, h⟩
end Go.Proofs.Ytjiehalanklapaa.D
