import Derived.Test.YteeibieaapiomaaSAdd
/- A Site that was made since: Add, Type, Pop, Push. -/
namespace Go.Proofs.Yteeibieaapiomaa.D
open Go Go.Z Go.Proofs
set_option linter.unusedVariables false
structure SF (w0 w : World) (s : Nat) (q : SP) (E : List Ent) (I : List Bool) (m : ByteArray → Int) (N : List ND) (f : Bool) : Prop where
  is : IsS w s q E I m N f
  inv : Inv E I m N
  wf : WF N
  ge : ∀ k, footS s q k → w0.heap.size ≤ k
  chg : Chg w0 w No
/-- the same Doc, the same marks -/
structure SP.Eq (q q' : SP) : Prop where
  pd : q'.pd = q.pd
  pm : q'.pm = q.pm
  vm : q'.vm = q.vm
theorem SP.Eq.refl (q : SP) : SP.Eq q q := ⟨rfl, rfl, rfl⟩
theorem SP.Eq.trans {a b c : SP} (h : SP.Eq a b) (k : SP.Eq b c) : SP.Eq a c := ⟨k.1.trans h.1, k.2.trans h.2, k.3.trans h.3⟩
section
variable {w0 w w' w1 w2 : World} {s : Nat} {q q' : SP} {E E' : List Ent} {I I' : List Bool} {m m' : ByteArray → Int} {N N' : List ND} {f f' : Bool}
theorem SF.no (h : SF w0 w s q E I m N f) (hc : Chg w w' No) : SF w0 w' s q E I m N f := ⟨h.is.no hc, h.inv, h.wf, h.ge, h.chg.no hc⟩
theorem SF.wr (h : SF w0 w s q E I m N f) (hi : IsS w' s q' E' I' m' N' f') (hW : WrS w w' s q q') (hI : Inv E' I' m' N') (hf : WF N') : SF w0 w' s q' E' I' m' N' f' :=
  ⟨hi, hI, hf, fun k hk => (hW.ft k hk).elim (h.ge k) (fun h1 => Nat.le_trans h.chg.size h1), h.chg.trans hW.chg (fun i hi hk => by have := h.ge i hk; omega)⟩
theorem SF.chgW (h : SF w0 w s q E I m N f) (hW : WrS w w' s q q') : Chg w0 w' No := h.chg.trans hW.chg (fun i hi hk => by have := h.ge i hk; omega)
theorem SF.hinv (h : SF w0 w s q E I m N f) (l : List ByteArray) (hs : ¬ someM m l) : lastF E l (E.length - 1) = 0 := h.inv.lno hs _ (by have := h.inv.pos; omega)
theorem Inv.last (h : Inv E I m N) : lastE E ∈ E := by have := h.pos; exact getD_mem (by omega)
theorem Inv.lastN (h : Inv E I m N) : (lastE E).n < N.length := (h.el _ h.last).1
theorem SF.foster (h : SF w0 w s q E I m N f) (b : Bool) : Calls Try.prog 37 [.pointer (some ⟨s, 0, none⟩), .bool b].toArray w fun x w' => x = .returned (.tuple #[]) ∧ SF w0 w' s q E I m N b ∧ WrS w w' s q q :=
  (sFoster_calls h.is b).mono (fun e w' hh => ⟨hh.1, h.wr hh.2.1 hh.2.2 h.inv h.wf, hh.2.2⟩)
theorem SF.pop (h : SF w0 w s q E I m N f) (hN : N.length ≤ 900000) :
    Calls Try.prog 15 [.pointer (some ⟨s, 0, none⟩)].toArray w fun x w' => x = .returned (.bool (decide (2 ≤ E.length))) ∧ ∃ q', SP.Eq q q' ∧ WrS w w' s q q' ∧
      (if 2 ≤ E.length then SF w0 w' s q' E.dropLast (I.set (lastE E).n false) (cntM m (lastE E) (-1)) N f else SF w0 w' s q' E I m N f) := by
  have hel := h.inv.elen
  refine (sPop_calls h.is h.inv.pos (by omega) (fun h2 => (h.inv.pop h2).2) (h.inv.small hN)).mono ?_
  rintro e w' ⟨rfl, vo, hW, hI⟩
  refine ⟨rfl, { q with vo := vo }, ⟨rfl, rfl, rfl⟩, hW, ?_⟩
  by_cases h2 : 2 ≤ E.length
  · rw [if_pos h2] at hI ⊢
    exact h.wr hI hW (h.inv.pop h2).1 h.wf
  · rw [if_neg h2] at hI ⊢
    exact h.wr hI hW h.inv h.wf
theorem SF.push (h : SF w0 w s q E I m N f) (hB : BigT N) (hN : N.length ≤ 900000) (n : Nat) (hn : n < N.length) :
    Calls Try.prog 19 [.pointer (some ⟨s, 0, none⟩), .int .i64 n].toArray w fun x w' => x = .returned (.bool (freshB N I n)) ∧ ∃ q', SP.Eq q q' ∧ WrS w w' s q q' ∧
      (if freshB N I n = true then SF w0 w' s q' (E ++ [entN N n]) (comI I n) (cntM m (entN N n) 1) N f else SF w0 w' s q' E I m N f) := by
  have hel := h.inv.elen
  have hil := h.inv.il
  refine (sPush_calls h.is hB n hn (by omega) h.inv.pos (by omega) (by omega) (h.inv.small hN)).mono ?_
  rintro e w' ⟨rfl, vo, vi, hW, hI⟩
  refine ⟨rfl, { q with vo := vo, vi := vi }, ⟨rfl, rfl, rfl⟩, hW, ?_⟩
  by_cases h2 : freshB N I n = true
  · rw [if_pos h2] at hI ⊢
    exact h.wr hI hW (h.inv.push hn h2) h.wf
  · rw [if_neg h2] at hI ⊢
    exact h.wr hI hW h.inv h.wf
theorem SF.spot (h : SF w0 w s q E I m N f) (hB : BigT N) (hN : N.length ≤ 900000) (n : Int) :
    Calls Try.prog 42 [.pointer (some ⟨s, 0, none⟩), .int .i64 n].toArray w fun x w' => x = .returned (.tuple #[.int .i64 (spotN N E f n).1, .int .i64 (spotN N E f n).2]) ∧ Chg w w' No :=
  sSpot_calls h.is hB h.inv.pos (by have := h.inv.elen; omega) h.hinv n
theorem SF.has (h : SF w0 w s q E I m N f) (hN : N.length ≤ 900000) {v : Value} {l : List ByteArray} (hv : NS w v l) (hl : l.length ≤ 1000000) (sc : Int) :
    Calls Try.prog 35 [.pointer (some ⟨s, 0, none⟩), .int .i64 sc, v].toArray w fun x w' => x = .returned (.bool (hasF E sc l (E.length - 1))) ∧ Chg w w' No :=
  sHas_calls h.is hv hl h.inv.pos (by have := h.inv.elen; omega) sc (fun hs => h.inv.hno hs sc _ (by have := h.inv.pos; omega))
theorem SF.top (h : SF w0 w s q E I m N f) (hN : N.length ≤ 900000) : Calls Try.prog 21 [.pointer (some ⟨s, 0, none⟩)].toArray w fun e w' => e = .returned (.int .i64 (lastE E).n) ∧ Chg w w' No :=
  sTop_calls h.is h.inv.pos (by have := h.inv.elen; omega)
theorem SF.topZ (h : SF w0 w s q E I m N f) (hN : N.length ≤ 900000) {z : Int} (hz : z = ((lastE E).n : Nat)) : Calls Try.prog 21 [.pointer (some ⟨s, 0, none⟩)].toArray w fun e w' => e = .returned (.int .i64 z) ∧ Chg w w' No := by subst hz; exact h.top hN
theorem SF.hasZ (h : SF w0 w s q E I m N f) (hN : N.length ≤ 900000) {v : Value} {l : List ByteArray} (hv : NS w v l) (hl : l.length ≤ 1000000) (sc : Int) {z : Bool} (hz : z = hasF E sc l (E.length - 1)) :
    Calls Try.prog 35 [.pointer (some ⟨s, 0, none⟩), .int .i64 sc, v].toArray w fun x w' => x = .returned (.bool z) ∧ Chg w w' No := by subst hz; exact h.has hN hv hl sc
theorem SF.spotZ (h : SF w0 w s q E I m N f) (hB : BigT N) (hN : N.length ≤ 900000) (n : Int) {z : Int × Int} (hz : z = spotN N E f n) :
    Calls Try.prog 42 [.pointer (some ⟨s, 0, none⟩), .int .i64 n].toArray w fun x w' => x = .returned (.tuple #[.int .i64 z.1, .int .i64 z.2]) ∧ Chg w w' No := by subst hz; exact h.spot hB hN n
theorem SF.popZ (h : SF w0 w s q E I m N f) (hN : N.length ≤ 900000) {z : Bool} (hz : z = decide (2 ≤ E.length)) :
    Calls Try.prog 15 [.pointer (some ⟨s, 0, none⟩)].toArray w fun x w' => x = .returned (.bool z) ∧ ∃ q', SP.Eq q q' ∧ WrS w w' s q q' ∧
      (if 2 ≤ E.length then SF w0 w' s q' E.dropLast (I.set (lastE E).n false) (cntM m (lastE E) (-1)) N f else SF w0 w' s q' E I m N f) := by subst hz; exact h.pop hN
theorem IsS.no_attr {l : List At} {va : Value} (ha : AttrS w va l) (hW : WrD w w' q.pd q.vl q.Q q'.vl q'.Q) : AttrS w' va l := ha.wr hW
theorem BigT.snoc (hB : BigT N) {x : ND} (h1 : x.text.length ≤ 1000000000) (h2 : x.attrs.length ≤ 100000) : BigT (N ++ [x]) := fun i => by
  rw [getD_add]
  split
  · exact ⟨h1, h2⟩
  · exact hB i
theorem BigT.lay (hB : BigT N) (n up a : Nat) : BigT (layN N n up a) := by
  have key : ∀ (M : List ND) (i : Nat) (x : ND), BigT M → (x.text.length ≤ 1000000000 ∧ x.attrs.length ≤ 100000) → BigT (M.set i x) := fun M i x hM hx j => by
    rcases Nat.lt_or_ge i M.length with hi | hi
    · rw [getD_set _ _ _ _ _ hi]
      split
      · exact hx
      · exact hM j
    · rw [List.set_eq_of_length_le hi]; exact hM j
  unfold layN
  exact key _ _ _ (key _ _ _ hB (hB up)) (hB n)
theorem PutR.big {n up ahead : Int} {p : Bool} (h : PutR N n up ahead p N') (hB : BigT N) : BigT N' := by
  by_cases ho : PutOk N n up ahead
  · rw [(h.1 ho).2]; exact hB.lay _ _ _
  · rw [(h.2 ho).2]; exact hB
set_option maxHeartbeats 8000000 in
theorem SF.add (h : SF w0 w s q E I m N f) (hB : BigT N) (hN : N.length < 100000) (sp : Int) (nm : ByteArray) {va : Value} {l : List At} (ha : AttrS w va l) (hal : l.length ≤ 100000) :
    Calls Try.prog 23 [.pointer (some ⟨s, 0, none⟩), .int .i64 sp, .string nm, va].toArray w fun x w' => x = .returned (.int .i64 N.length) ∧ ∃ q' I' m' N' p, SP.Eq q q' ∧ WrS w w' s q q' ∧
      PutR (N ++ [⟨1, sp, nm, l, [], -1, []⟩]) N.length (spotN N E f (lastE E).n).1 (spotN N E f (lastE E).n).2 p N' ∧ BigT N' ∧ N'.length = N.length + 1 ∧ SF w0 w' s q' (E ++ [⟨N.length, sp, nm⟩]) I' m' N' f := by
  have hb := h.is.blk
  obtain ⟨A0, c0, rfl, _⟩ := ha.form
  refine calls_zc (n := 39) (f := 23) (fn := Try.f23) Try.func23 rfl rfl (by simp) ?_
  refine zc_seq ?_
  refine zc_region ?_
  refine zl_pureL rfl ?_
  refine zl_nil ?_
  refine zk_seq ?_
  refine zc_seq ?_
  refine zc_region ?_
  iterate 2 (refine zl_pureL rfl ?_)
  refine zl_call (by first | exact want_none | exact want_L rfl) rfl (by decide) rfl (h.top (by omega)) ?_
  rintro _ w1 ⟨rfl, hC1⟩
  refine ⟨_, rfl, ?_⟩
  skip
  refine zl_call (by first | exact want_none | exact want_L rfl) rfl (by decide) rfl ((h.no hC1).spot hB (by omega) _) ?_
  rintro _ w2 ⟨rfl, hC2⟩
  refine ⟨_, rfl, ?_⟩
  have hC02 := hC1.no hC2
  have h2 := h.no hC02
  have hb2 := hb.no hC02
  iterate 5 (refine zl_pureL rfl ?_)
  refine zl_nil ?_
  refine zk_seq ?_
  refine zc_seq ?_
  refine zc_region ?_
  iterate 2 (refine zl_pureL rfl ?_)
  refine z_fa want_none (by decide) rfl ?_
  refine z_loadB want_none (by decide) rfl (by assumption) (by rfl) ?_
  iterate 3 (refine zl_pureL rfl ?_)
  refine zl_call (by first | exact want_none | exact want_L rfl) rfl (by decide) rfl (elem'_calls h2.is.doc (by omega) sp nm (ha.no hC02) hal) ?_
  rintro _ w3 ⟨rfl, vl3, Q3, hD3, hW3⟩
  refine ⟨_, rfl, ?_⟩
  have hwf3 : WF (N ++ [⟨1, sp, nm, l, [], -1, []⟩]) := h.wf.add rfl rfl
  have hK3 : sameK N (N ++ [⟨1, sp, nm, l, [], -1, []⟩]) := sameK.snoc _ _
  have h3 := h2.wr (h2.is.docW hD3 hW3) (WrS.doc hW3) (h2.inv.nodes hK3) hwf3
  have hb3 := h3.is.blk
  dsimp only at hb3
  refine zl_pureL rfl ?_
  refine zl_nil ?_
  refine zk_seq ?_
  refine zc_seq ?_
  refine zc_region ?_
  iterate 2 (refine zl_pureL rfl ?_)
  refine z_fa want_none (by decide) rfl ?_
  refine z_loadB want_none (by decide) rfl (by assumption) (by rfl) ?_
  iterate 3 (refine zl_pureL rfl ?_)
  refine zl_call (by first | exact want_none | exact want_L rfl) rfl (by decide) rfl (put_calls h3.is.doc h3.wf (by simp; omega) _ _ _) ?_
  rintro _ w4 ⟨p, Q4, N4, rfl, hD4, hW4, hR4⟩
  refine ⟨_, rfl, ?_⟩
  have hwf4 := (hR4.wf h3.wf).1
  have hlen4 : N4.length = N.length + 1 := by rw [(hR4.wf h3.wf).2]; simp
  have hK4 := hR4.sameK h3.wf
  have h4 := h3.wr (h3.is.docW hD4 hW4) (WrS.doc hW4) (h3.inv.nodes hK4) hwf4
  have hB4 : BigT N4 := hR4.big (hB.snoc (Nat.zero_le _) hal)
  have hent : entN N4 N.length = ⟨N.length, sp, nm⟩ := by
    obtain ⟨_, k2, k3⟩ := hK4.2 N.length (by simp)
    unfold entN
    rw [k2, k3, getD_add, if_pos rfl]
  have hfr : freshB N4 I (N.length : Nat) = true := by
    unfold freshB
    obtain ⟨k1, _, _⟩ := hK4.2 N.length (by simp)
    have hnd : nodeOf N4 (N.length : Nat) = N4.getD N.length n0 := if_pos ⟨by omega, by omega⟩
    rw [decide_eq_true_eq, hnd]
    refine ⟨by rw [k1, getD_add, if_pos rfl], fun ho => ?_⟩
    have := h.inv.il
    have := ho.2.1
    omega
  refine zl_nil ?_
  refine zk_seq ?_
  refine zc_seq ?_
  refine zc_region ?_
  iterate 2 (refine zl_pureL rfl ?_)
  refine zl_call (by first | exact want_none | exact want_L rfl) rfl (by decide) rfl (h4.push hB4 (by omega) N.length (by omega)) ?_
  rintro _ w5 ⟨rfl, q5, hq5, hW5, h5⟩
  refine ⟨_, rfl, ?_⟩
  rw [if_pos hfr, hent] at h5
  refine zl_nil ?_
  refine zk_seq ?_
  refine zc_seq ?_
  refine zc_region ?_
  iterate 2 (refine zl_pureL rfl ?_)
  refine zl_nil ?_
  refine zk_seq ?_
  refine zc_ret ?_
  exact zk_ret1 (.inr rfl) rfl rfl ⟨rfl, q5, _, _, N4, p, ⟨hq5.1, hq5.2, hq5.3⟩, (((WrS.of_no hC02 _ _).trans (WrS.doc hW3)).trans (WrS.doc hW4)).trans hW5, hR4, hB4, hlen4, h5⟩
set_option maxHeartbeats 8000000 in
theorem SF.type (h : SF w0 w s q E I m N f) (hB : BigT N) (hN : N.length ≤ 100000) (t : List UInt8) (ht : t.length ≤ 100000) :
    Calls Try.prog 38 [.pointer (some ⟨s, 0, none⟩), .string (bs t)].toArray w fun x w' => x = .returned (.tuple #[]) ∧ ∃ q' N' p, SP.Eq q q' ∧ WrS w w' s q q' ∧
      WriteR N t (spotN N E f (lastE E).n).1 (spotN N E f (lastE E).n).2 p N' ∧ SF w0 w' s q' E I m N' f := by
  have hb := h.is.blk
  refine calls_zc (n := 21) (f := 38) (fn := Try.f38) Try.func38 rfl rfl (by simp) ?_
  refine zc_seq ?_
  refine zc_region ?_
  iterate 2 (refine zl_pureL rfl ?_)
  refine zl_call (by first | exact want_none | exact want_L rfl) rfl (by decide) rfl (h.top (by omega)) ?_
  rintro _ w1 ⟨rfl, hC1⟩
  refine ⟨_, rfl, ?_⟩
  skip
  refine zl_call (by first | exact want_none | exact want_L rfl) rfl (by decide) rfl ((h.no hC1).spot hB (by omega) _) ?_
  rintro _ w2 ⟨rfl, hC2⟩
  refine ⟨_, rfl, ?_⟩
  have hC02 := hC1.no hC2
  have h2 := h.no hC02
  have hb2 := hb.no hC02
  iterate 5 (refine zl_pureL rfl ?_)
  refine zl_nil ?_
  refine zk_seq ?_
  refine zc_region ?_
  iterate 2 (refine zl_pureL rfl ?_)
  refine z_fa want_none (by decide) rfl ?_
  refine z_loadB want_none (by decide) rfl (by assumption) (by rfl) ?_
  iterate 3 (refine zl_pureL rfl ?_)
  refine zl_call (by first | exact want_none | exact want_L rfl) rfl (by decide) rfl (write_calls h2.is.doc h.wf hN t ht hB.text _ _) ?_
  rintro _ w3 ⟨p, vl3, Q3, N3, rfl, hD3, hW3, hR3⟩
  refine ⟨_, rfl, ?_⟩
  have h3 := h2.wr (h2.is.docW hD3 hW3) (WrS.doc hW3) (h2.inv.nodes hR3.sameK) (hR3.wf h.wf).1
  refine zl_nil ?_
  exact zk_ret0 (.inl rfl) rfl ⟨rfl, { q with vl := vl3, Q := Q3 }, N3, p, ⟨rfl, rfl, rfl⟩, (WrS.of_no hC02 _ _).trans (WrS.doc hW3), hR3, h3⟩
end
end Go.Proofs.Yteeibieaapiomaa.D
