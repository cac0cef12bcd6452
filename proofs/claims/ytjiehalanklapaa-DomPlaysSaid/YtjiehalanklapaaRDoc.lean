import Derived.Test.YtjiehalanklapaaDDoc8
/- The document's Doc in memory, over the same nodes; what is read of it. -/
namespace Go.Proofs.Ytjiehalanklapaa.D
open Go Go.Z Go.Proofs
set_option linter.unusedVariables false
abbrev nV : Value := .slice none 0 0
def upC (N : List ND) : List Value := N.map (fun x => .int .i64 x.up)
theorem upC_len (N : List ND) : (upC N).length = N.length * 1 := by simp [upC]
theorem upC_get (N : List ND) (i : Nat) (h : i < N.length) : (upC N)[i]? = some (.int .i64 (N.getD i n0).up) := by
  simp [upC, List.getElem?_map, List.getElem?_eq_getElem h, List.getD_eq_getElem?_getD]
theorem upC_one (N : List ND) : ∀ u ∈ upC N, u.oneCell' = true := by
  intro u hu
  obtain ⟨s, _, rfl⟩ := List.mem_map.1 hu
  rfl
theorem upC_app (l r : List ND) : upC (l ++ r) = upC l ++ upC r := List.map_append
def RN (w : World) (m : MN) (x : ND) : Prop := HR w m (hdOf x) ∧ m.kids = nV
structure IsR (w : World) (p : Nat) (vn vu vr : Value) (ms : List MN) (ks : List Value) (N : List ND) : Prop where
  blk : Blk w p 63 [vn, vu, vr]
  own : Own w 48 7 vn N.length (encN ms)
  ups : Own w 3 1 vu N.length (upC N)
  rws : Own w 35 1 vr N.length ks
  lm : ms.length = N.length
  lk : ks.length = N.length
  at_ : ∀ i, i < N.length → RN w (ms.getD i MN.z) (N.getD i n0)
  kid : ∀ i, i < N.length → Own w 3 1 (ks.getD i nV) (N.getD i n0).kids.length (intC (N.getD i n0).kids) ∧ ∀ k, (ks.getD i nV).ownBlock = some k → vu.ownBlock ≠ some k
def fR (p : Nat) (vn vu vr : Value) (ks : List Value) (k : Nat) : Prop := k = p ∨ vn.ownBlock = some k ∨ vu.ownBlock = some k ∨ vr.ownBlock = some k ∨ ∃ i, i < ks.length ∧ (ks.getD i nV).ownBlock = some k
section
variable {w w' w1 w2 : World} {p : Nat} {vn vu vr : Value} {ms : List MN} {ks : List Value} {N : List ND} {S : Nat → Prop}
theorem HR.chg' {m : MN} {x : Hd} (h : HR w m x) (hc : Chg w w' S) (h45 : ∀ b cells, Blk w b 45 cells → ¬ S b) : HR w' m x := ⟨h.1, h.2.1, h.2.2.1, RdS.chg h.2.2.2.1 hc h45, h.2.2.2.2⟩
theorem IsR.chg (h : IsR w p vn vu vr ms ks N) (hc : Chg w w' S) (hS : ∀ k, fR p vn vu vr ks k → ¬ S k) (h45 : ∀ b cells, Blk w b 45 cells → ¬ S b) : IsR w' p vn vu vr ms ks N :=
  ⟨h.blk.chg hc (hS _ (.inl rfl)), h.own.chg hc (fun k hk => hS k (.inr (.inl hk))), h.ups.chg hc (fun k hk => hS k (.inr (.inr (.inl hk)))), h.rws.chg hc (fun k hk => hS k (.inr (.inr (.inr (.inl hk))))), h.lm, h.lk,
    fun i hi => ⟨(h.at_ i hi).1.chg' hc h45, (h.at_ i hi).2⟩, fun i hi => ⟨(h.kid i hi).1.chg hc (fun k hk => hS k (.inr (.inr (.inr (.inr ⟨i, by rw [h.lk]; exact hi, hk⟩))))), (h.kid i hi).2⟩⟩
theorem IsR.no (h : IsR w p vn vu vr ms ks N) (hc : Chg w w' No) : IsR w' p vn vu vr ms ks N := h.chg hc (fun _ _ => id) (fun _ _ _ => id)
theorem IsR.lt (h : IsR w p vn vu vr ms ks N) : ∀ k, fR p vn vu vr ks k → k < w.heap.size := by
  rintro k (rfl | hk | hk | hk | ⟨i, hi, hk⟩)
  · exact h.blk.lt
  · exact h.own.lt hk
  · exact h.ups.lt hk
  · exact h.rws.lt hk
  · exact (h.kid i (by rw [← h.lk]; exact hi)).1.lt hk
theorem IsR.no45 (h : IsR w p vn vu vr ms ks N) : ∀ b cells, Blk w b 45 cells → ¬ fR p vn vu vr ks b := by
  rintro b cells hb (rfl | hk | hk | hk | ⟨i, hi, hk⟩)
  · exact absurd (h.blk.inj hb).1 (by decide)
  · exact h.own.ne hk hb (by decide) rfl
  · exact h.ups.ne hk hb (by decide) rfl
  · exact h.rws.ne hk hb (by decide) rfl
  · exact (h.kid i (by rw [← h.lk]; exact hi)).1.ne hk hb (by decide) rfl
theorem IsR.formN (h : IsR w p vn vu vr ms ks N) : ∃ A c, vn = .slice A N.length c ∧ N.length ≤ c := h.own.rd.form
theorem IsR.formU (h : IsR w p vn vu vr ms ks N) : ∃ A c, vu = .slice A N.length c ∧ N.length ≤ c := h.ups.rd.form
theorem IsR.formR (h : IsR w p vn vu vr ms ks N) : ∃ A c, vr = .slice A N.length c ∧ N.length ≤ c := h.rws.rd.form
theorem IsR.up (h : IsR w p vn vu vr ms ks N) (i : Nat) (hi : i < N.length) : ∃ b o c, vu = .slice (some ⟨b, o, none⟩) N.length c ∧ w.cell? ⟨b, o + i, none⟩ = some (.int .i64 (N.getD i n0).up) := by
  obtain ⟨b, o, c, hv, _, hc⟩ := RdS.some h.ups.rd (by omega)
  exact ⟨b, o, c, hv, hc i _ (upC_get N i hi)⟩
theorem IsR.kd (h : IsR w p vn vu vr ms ks N) (i : Nat) (hi : i < N.length) : ∃ b o c A c', vr = .slice (some ⟨b, o, none⟩) N.length c ∧ w.cell? ⟨b, o + i, none⟩ = some (.slice A (N.getD i n0).kids.length c') ∧ ks.getD i nV = .slice A (N.getD i n0).kids.length c' ∧ (N.getD i n0).kids.length ≤ c' := by
  obtain ⟨b, o, c, hv, _, hc⟩ := RdS.some h.rws.rd (by omega)
  obtain ⟨A, c', hk, hc'⟩ := (h.kid i hi).1.rd.form
  refine ⟨b, o, c, A, c', hv, ?_, hk, hc'⟩
  rw [← hk]
  exact hc i _ (by rw [List.getD_eq_getElem?_getD, List.getElem?_eq_getElem (by rw [h.lk]; exact hi)]; rfl)
theorem IsR.nd (h : IsR w p vn vu vr ms ks N) (i : Nat) (hi : i < N.length) : ∃ b o c A, vn = .slice (some ⟨b, o, none⟩) N.length c ∧ NodeC w b (o + i * 7) (hdOf (N.getD i n0)) A nV ∧ AttrS w A (N.getD i n0).attrs := by
  obtain ⟨b, o, c, hv, _, hc⟩ := RdS.some h.own.rd (by omega)
  obtain ⟨⟨e1, e2, e3, e4, e5, e6⟩, e7⟩ := h.at_ i hi
  have hg := encN_get ms i (by rw [h.lm]; exact hi)
  refine ⟨b, o, c, (ms.getD i MN.z).attrs, hv, ?_, e4⟩
  constructor
  · have := hc _ _ (hg 0 _ rfl); rw [← e1]; exact this
  · have := hc _ _ (hg 1 _ rfl); rw [← e2, Nat.add_assoc]; exact this
  · have := hc _ _ (hg 2 _ rfl); rw [← e3, Nat.add_assoc]; exact this
  · have := hc _ _ (hg 3 _ rfl); rw [Nat.add_assoc]; exact this
  · have := hc _ _ (hg 4 _ rfl); rw [← e5, Nat.add_assoc]; exact this
  · have := hc _ _ (hg 5 _ rfl); rw [← e6, Nat.add_assoc]; exact this
  · have := hc _ _ (hg 6 _ rfl); rw [← e7, Nat.add_assoc]; exact this
end
structure WrR (w w' : World) (p : Nat) (vn vu vr : Value) (ks : List Value) (vn' vu' vr' : Value) (ks' : List Value) : Prop where
  chg : Chg w w' (fR p vn vu vr ks)
  ft : ∀ k, fR p vn' vu' vr' ks' k → fR p vn vu vr ks k ∨ w.heap.size ≤ k
  k45 : ∀ b cells, Blk w b 45 cells → Blk w' b 45 cells
section
variable {w w' w1 w2 : World} {p : Nat} {vn vu vr vn1 vu1 vr1 vn2 vu2 vr2 : Value} {ks ks1 ks2 : List Value}
theorem WrR.refl (w : World) (p : Nat) (vn vu vr : Value) (ks : List Value) : WrR w w p vn vu vr ks vn vu vr ks := ⟨Chg.refl _ _, fun _ h => .inl h, fun _ _ h => h⟩
theorem WrR.trans (h : WrR w w1 p vn vu vr ks vn1 vu1 vr1 ks1) (k : WrR w1 w2 p vn1 vu1 vr1 ks1 vn2 vu2 vr2 ks2) : WrR w w2 p vn vu vr ks vn2 vu2 vr2 ks2 := by
  refine ⟨h.chg.trans k.chg (fun i hi hf => ?_), fun i hf => ?_, fun b c hb => k.k45 b c (h.k45 b c hb)⟩
  · rcases h.ft i hf with h1 | h1
    · exact h1
    · omega
  · rcases k.ft i hf with h1 | h1
    · exact h.ft i h1
    · exact .inr (Nat.le_trans h.chg.size h1)
theorem WrR.of_no (hc : Chg w w' No) (p : Nat) (vn vu vr : Value) (ks : List Value) : WrR w w' p vn vu vr ks vn vu vr ks := ⟨hc.mono (fun _ _ h => h.elim), fun _ h => .inl h, fun _ _ h => h.no hc⟩
theorem WrR.no (h : WrR w w1 p vn vu vr ks vn1 vu1 vr1 ks1) (hc : Chg w1 w2 No) : WrR w w2 p vn vu vr ks vn1 vu1 vr1 ks1 := h.trans (WrR.of_no hc _ _ _ _ _)
theorem WrR.pre (hc : Chg w w1 No) (h : WrR w1 w2 p vn vu vr ks vn1 vu1 vr1 ks1) : WrR w w2 p vn vu vr ks vn1 vu1 vr1 ks1 := (WrR.of_no hc _ _ _ _ _).trans h
end
end Go.Proofs.Ytjiehalanklapaa.D
