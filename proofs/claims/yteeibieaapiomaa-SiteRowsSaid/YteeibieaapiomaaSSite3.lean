import Derived.Test.YteeibieaapiomaaSSite2
/- A Site that is written: what one change of a block leaves. -/
namespace Go.Z
open Go
section
variable {w w' : World} {R : Nat → Prop} {τ : Nat}
def OneT (w : World) (τ : Nat) (R : Nat → Prop) : Prop := ∀ k, R k → ∃ cs, Blk w k τ cs
theorem Own.typ {t sz m : Nat} {v : Value} {cs : List Value} (h : Own w t sz v m cs) (hc : Chg w w' R) (hR : OneT w τ R) (ht : t ≠ τ) : Own w' t sz v m cs := h.chg hc (fun k hk hs => by obtain ⟨cs', hb⟩ := hR k hs; exact h.ne hk hb ht rfl)
theorem RdS.typ {t sz m : Nat} {v : Value} {cs : List Value} (h : RdS w t sz v m cs) (hc : Chg w w' R) (hR : OneT w τ R) (ht : t ≠ τ) : RdS w' t sz v m cs := RdS.chg h hc (fun b cells hb hs => by obtain ⟨cs', hb2⟩ := hR b hs; exact ht (hb.inj hb2).1)
theorem Blk.typ {b t : Nat} {cs : List Value} (h : Blk w b t cs) (hc : Chg w w' R) (hR : OneT w τ R) (ht : t ≠ τ) : Blk w' b t cs := h.chg hc (fun hs => by obtain ⟨cs', hb2⟩ := hR b hs; exact ht (h.inj hb2).1)
theorem MpI.typ {r : Nat} {m : ByteArray → Int} (h : MpI w r m) (hc : Chg w w' R) (hR : OneT w τ R) : MpI w' r m := h.chg hc (fun hs => by obtain ⟨cs', hb2⟩ := hR r hs; exact h.ne hb2 rfl)
theorem own_b {t sz m : Nat} {v : Value} {cs : List Value} (h : Own w t sz v m cs) (hm : 0 < m) : ∃ b c, v = .slice (some ⟨b, 0, none⟩) m c ∧ m ≤ c := by
  rcases h.cases.2 with ⟨_, h0, _⟩ | ⟨b, cap, junk, hv, hc, _⟩
  · omega
  · exact ⟨b, cap, hv, hc⟩
end
end Go.Z
namespace Go.Proofs.Yteeibieaapiomaa.D
open Go Go.Z Go.Proofs
set_option linter.unusedVariables false
section
variable {w w' w1 w2 : World} {s : Nat} {q q' q1 q2 : SP} {E E' : List Ent} {I I' : List Bool} {m m' : ByteArray → Int} {N N' : List ND} {f : Bool} {R : Nat → Prop} {τ : Nat}
theorem IsD.typ {p : Nat} {vl : Value} {Q : List PN} (h : IsD w p vl Q N) (hc : Chg w w' R) (hR : OneT w τ R) (h1 : τ ≠ 102) (h2 : τ ≠ 76) (h3 : τ ≠ 80) (h4 : τ ≠ 5) (h5 : τ ≠ 3) (h6 : τ ≠ 89) : IsD w' p vl Q N :=
  h.chg hc (fun k hk hs => by obtain ⟨cs, hb⟩ := hR k hs; exact h.noT hb h1 h2 h3 h4 h5 hk) (fun b cells hb hs => by obtain ⟨cs, hb2⟩ := hR b hs; exact h6 (hb.inj hb2).1.symm)
theorem IsD.noM {p : Nat} {vl : Value} {Q : List PN} (h : IsD w p vl Q N) {r : Nat} (hm : MpI w r m) : ¬ foot p vl Q r := by
  rintro (he | he | ⟨i, hi, he | he | he⟩)
  · exact hm.ne h.blk he.symm
  · obtain ⟨cs, hb⟩ := h.row.blk he; exact hm.ne hb rfl
  · exact hm.ne (h.at_ i (by rw [← h.len]; exact hi)).1 he.symm
  · exact OwnB.blk' (h.at_ i (by rw [← h.len]; exact hi)).2.2.1 he hm rfl
  · obtain ⟨cs, hb⟩ := (h.at_ i (by rw [← h.len]; exact hi)).2.2.2.blk he; exact hm.ne hb rfl
theorem IsD.map {p : Nat} {vl : Value} {Q : List PN} (h : IsD w p vl Q N) {r : Nat} (hm : MpI w r m) (hc : Chg w w' (· = r)) : IsD w' p vl Q N :=
  h.chg hc (fun k hk hs => h.noM hm (hs ▸ hk)) (fun b cells hb hs => hm.ne hb hs)
/-- what is of another type is no part of a Site -/
theorem IsS.noT (h : IsS w s q E I m N f) {b t : Nat} {cs : List Value} (hb : Blk w b t cs) (h1 : t ≠ 102) (h2 : t ≠ 76) (h3 : t ≠ 80) (h4 : t ≠ 5) (h5 : t ≠ 3) (h6 : t ≠ 72) (h7 : t ≠ 74) (h8 : t ≠ 4) : ¬ footS s q b := by
  rintro (he | he | he | he | he)
  · exact hb.ne h.blk h6 he
  · exact h.own.ne he hb (Ne.symm h7) rfl
  · exact h.iso.ne he hb (Ne.symm h8) rfl
  · exact h.mp.ne hb he
  · exact h.doc.noT hb h1 h2 h3 h4 h5 he
theorem IsS.isoW (h : IsS w s q E I m N f) (hc : Chg w w' R) (hR : OneT w 4 R) (hI : Own w' 4 1 q.vi I'.length (boolC I')) : IsS w' s q E I' m N f :=
  ⟨h.blk.typ hc hR (by decide), h.doc.typ hc hR (by decide) (by decide) (by decide) (by decide) (by decide) (by decide), h.mrk.typ hc hR (by decide), h.own.typ hc hR (by decide), hI, h.mp.typ hc hR⟩
theorem IsS.ownW (h : IsS w s q E I m N f) (hc : Chg w w' R) (hR : OneT w 74 R) (hO : Own w' 74 3 q.vo E'.length (encE E')) : IsS w' s q E' I m N f :=
  ⟨h.blk.typ hc hR (by decide), h.doc.typ hc hR (by decide) (by decide) (by decide) (by decide) (by decide) (by decide), h.mrk.typ hc hR (by decide), hO, h.iso.typ hc hR (by decide), h.mp.typ hc hR⟩
theorem IsS.mapW (h : IsS w s q E I m N f) (hc : Chg w w' (· = q.r)) (hm : MpI w' q.r m') : IsS w' s q E I m' N f :=
  ⟨h.blk.chg hc (h.mp.ne h.blk), h.doc.map h.mp hc, h.mrk.chg hc (h.mp.ne h.mrk), h.own.chg hc (fun k hk hs => by obtain ⟨cs, hb⟩ := h.own.blk hk; exact h.mp.ne hb hs), h.iso.chg hc (fun k hk hs => by obtain ⟨cs, hb⟩ := h.iso.blk hk; exact h.mp.ne hb hs), hm⟩
/-- another open row, another row of marks of being open, fostering -/
theorem IsS.blkW (h : IsS w s q E I m N f) {vo' vi' : Value} {f' : Bool} (hU : Upd w w' s 72 [.pointer (some ⟨q.pd, 0, none⟩), .pointer (some ⟨q.pm, 0, none⟩), vo', vi', .map (some q.r), .bool f']) (hO : Own w 74 3 vo' E'.length (encE E')) (hI : Own w 4 1 vi' I'.length (boolC I')) : IsS w' s { q with vo := vo', vi := vi' } E' I' m N f' := by
  have hR : OneT w 72 (fun k => k = s) := fun k hk => ⟨_, hk ▸ h.blk⟩
  exact ⟨hU.blk, h.doc.typ hU.chg hR (by decide) (by decide) (by decide) (by decide) (by decide) (by decide), h.mrk.typ hU.chg hR (by decide), hO.typ hU.chg hR (by decide), hI.typ hU.chg hR (by decide), h.mp.typ hU.chg hR⟩
/-- the Doc has changed -/
theorem IsS.docW (h : IsS w s q E I m N f) {vl' : Value} {Q' : List PN} (hD : IsD w' q.pd vl' Q' N') (hw : WrD w w' q.pd q.vl q.Q vl' Q') : IsS w' s { q with vl := vl', Q := Q' } E I m N' f :=
  ⟨h.blk.chg hw.chg (h.doc.noT h.blk (by decide) (by decide) (by decide) (by decide) (by decide)), hD, h.mrk.chg hw.chg (h.doc.noT h.mrk (by decide) (by decide) (by decide) (by decide) (by decide)),
    h.own.chg hw.chg (fun k hk => by obtain ⟨cs, hb⟩ := h.own.blk hk; exact h.doc.noT hb (by decide) (by decide) (by decide) (by decide) (by decide)), h.iso.chg hw.chg (fun k hk => by obtain ⟨cs, hb⟩ := h.iso.blk hk; exact h.doc.noT hb (by decide) (by decide) (by decide) (by decide) (by decide)), h.mp.chg hw.chg (h.doc.noM h.mp)⟩
structure WrS (w w' : World) (s : Nat) (q q' : SP) : Prop where
  chg : Chg w w' (footS s q)
  ft : ∀ k, footS s q' k → footS s q k ∨ w.heap.size ≤ k
theorem WrS.refl (w : World) (s : Nat) (q : SP) : WrS w w s q q := ⟨Chg.refl _ _, fun _ h => .inl h⟩
theorem WrS.trans (h : WrS w w1 s q q1) (k : WrS w1 w2 s q1 q2) : WrS w w2 s q q2 := by
  refine ⟨h.chg.trans k.chg (fun i hi hf => ?_), fun i hf => ?_⟩
  · rcases h.ft i hf with h1 | h1
    · exact h1
    · omega
  · rcases k.ft i hf with h1 | h1
    · exact h.ft i h1
    · exact .inr (Nat.le_trans h.chg.size h1)
theorem WrS.of_no (hc : Chg w w' No) (s : Nat) (q : SP) : WrS w w' s q q := ⟨hc.mono (fun _ _ h => h.elim), fun _ h => .inl h⟩
theorem WrS.no (h : WrS w w1 s q q1) (hc : Chg w1 w2 No) : WrS w w2 s q q1 := h.trans (WrS.of_no hc _ _)
theorem WrS.pre (hc : Chg w w1 No) (h : WrS w1 w2 s q q1) : WrS w w2 s q q1 := (WrS.of_no hc _ _).trans h
theorem WrS.doc {vl' : Value} {Q' : List PN} (hw : WrD w w' q.pd q.vl q.Q vl' Q') : WrS w w' s q { q with vl := vl', Q := Q' } := by
  refine ⟨hw.chg.mono (fun k _ hk => .inr (.inr (.inr (.inr hk)))), ?_⟩
  rintro k (hk | hk | hk | hk | hk)
  · exact .inl (.inl hk)
  · exact .inl (.inr (.inl hk))
  · exact .inl (.inr (.inr (.inl hk)))
  · exact .inl (.inr (.inr (.inr (.inl hk))))
  · exact (hw.ft k hk).imp (fun h => .inr (.inr (.inr (.inr h)))) id
/-- one entry more, one less, of a name -/
def cntM (m : ByteArray → Int) (e : Ent) (d : Int) : ByteArray → Int := if e.sp = 1 then updM m e.nm (m e.nm + d) else m
def SmallM (m : ByteArray → Int) : Prop := ∀ k, -1000000 ≤ m k ∧ m k ≤ 1000000
theorem u69 : (Try.prog).underlying 69 = some (.map 9 3) := Try.underlying69
theorem u9 : (Try.prog).underlying 9 = some .string := Try.underlying9
theorem z3 (w : World) : (zeroValue 3).run Try.prog w = .ok (.int .i64 0) w := by kernel_rfl
set_option maxRecDepth 100000 in
set_option maxHeartbeats 8000000 in
theorem sGoes_calls (h : IsS w s q E I m N f) (e : Ent) (he : e.n < I.length) (hm : SmallM m) : Calls Try.prog 48 [.pointer (some ⟨s, 0, none⟩), .agg #[.int .i64 e.n, .int .i64 e.sp, .string e.nm]].toArray w fun x w' => x = .returned (.tuple #[]) ∧ IsS w' s q E (I.set e.n false) (cntM m e (-1)) N f ∧ WrS w w' s q q := by
  obtain ⟨bi, ci, hvi, hci⟩ := own_b h.iso (by omega)
  have hb := h.blk
  rw [hvi] at hb
  refine calls_zc (n := 22) (f := 48) (fn := Try.f48) Try.func48 rfl rfl (by simp) ?_
  refine zc_seq ?_
  refine zc_region ?_
  refine z_box (by first | exact want_none | exact want_L rfl) (by decide) rfl (fun w1 b1 hN1 => ?_)
  have hb1 : Blk w1 b1 74 [.int .i64 e.n, .int .i64 e.sp, .string e.nm] := hN1.blk
  have hbs := hb.no hN1.chg
  refine zl_nil ?_
  refine zk_seq ?_
  refine zc_seq ?_
  refine zc_draw [7] (fun w' => Blk w' s 72 [.pointer (some ⟨q.pd, 0, none⟩), .pointer (some ⟨q.pm, 0, none⟩), q.vo, .slice (some ⟨bi, 0, none⟩) I.length ci, .map (some q.r), .bool f] ∧ Blk w' b1 74 [.int .i64 e.n, .int .i64 e.sp, .string e.nm]) (.take 0 (.take 1 (.take 2 (.take 3 (.take 4 (.take 5 (.take 6 (.last 7)))))))) (by rfl) (by kernel_rfl) (by kernel_rfl) (fun w2 hC2 _ => ⟨?_, ?_⟩)
  · exact ⟨hbs.no hC2, hb1.no hC2⟩
  have h2 := h.no (hN1.chg.no hC2)
  have hI2 := h2.iso
  rw [hvi] at hI2
  obtain ⟨cells, hB, hfit, _, hnew⟩ := hI2.lay (o := e.n) (vs := [.bool false]) (by simp [boolC]; omega) (by simp [Value.oneCell'])
  iterate 2 (refine zs_take rfl (zt_pure rfl ?_))
  refine zs_rdL rfl want_none rfl (by decide) (fun _ hS => r_fa rfl) ?_
  refine zs_rdL rfl want_none rfl (by decide) (fun _ hS => r_loadB rfl hS.1 (by rfl)) ?_
  refine zs_rdL rfl want_none rfl (by decide) (fun _ hS => r_fa rfl) ?_
  refine zs_rdL rfl want_none rfl (by decide) (fun _ hS => r_loadB rfl hS.2 (by rfl)) ?_
  refine zs_rdL rfl want_none rfl (by decide) (fun _ hS => r_ia rfl rfl (by omega) (by omega)) ?_
  refine zs_storeL (o := e.n) rfl (by first | exact want_none | exact want_L rfl) (ev_ptr rfl (by omega)) rfl rfl hB (show e.n + 1 ≤ cells.length by simpa using hfit) (by simp [Value.cells, Value.oneCell']) (fun w3 hU3 => ?_)
  have hI3 := hnew w3 hU3
  rw [lay_one _ (by simp [boolC]; omega)] at hI3
  have hR3 : OneT w2 4 (fun k => k = bi) := fun k hk => ⟨_, hk ▸ hB⟩
  have h3 : IsS w3 s q E (I.set e.n false) m N f := h2.isoW hU3.chg hR3 (by
    rw [hvi, List.length_set]
    have : boolC (I.set e.n false) = (boolC I).set e.n (.bool false) := by simp [boolC, List.map_set]
    rw [this]; exact hI3)
  have hW3 : WrS w w3 s q q := ⟨((hN1.chg.no hC2).mono (S' := footS s q) (fun _ _ h => h.elim)).trans hU3.chg (fun k hk he => .inr (.inr (.inl (by rw [hvi, he]; rfl)))), fun _ h => .inl h⟩
  have hb3 := (hb1.no hC2).typ hU3.chg hR3 (by decide)
  have hbs3 := h3.blk
  refine zk_seq ?_
  refine zc_seq ?_
  refine zc_region ?_
  refine z_fa want_none (by decide) rfl ?_
  refine z_loadB want_none (by decide) rfl (by assumption) (by rfl) ?_
  by_cases hsp : e.sp = 1
  rotate_left
  · refine z_cmpB (r := false) want_none (by decide) rfl rfl rfl (iff_of_false Bool.false_ne_true (by omega)) ?_
    refine zl_nil ?_
    refine zk_seq ?_
    refine zc_false rfl ?_
    refine zc_skip ?_
    have e1 : cntM m e (-1) = m := by unfold cntM; rw [if_neg hsp]
    rw [← e1] at h3
    exact zk_ret0 (.inl rfl) rfl ⟨rfl, h3, hW3⟩
  have e1 : cntM m e (-1) = updM m e.nm (m e.nm - 1) := by unfold cntM; rw [if_pos hsp]; rfl
  have hmk := hm e.nm
  refine z_cmpB (r := true) want_none (by decide) rfl rfl rfl (iff_of_true rfl (by omega)) ?_
  refine zl_nil ?_
  refine zk_seq ?_
  refine zc_true rfl ?_
  refine zc_draw [8] (fun w' => Blk w' s 72 [.pointer (some ⟨q.pd, 0, none⟩), .pointer (some ⟨q.pm, 0, none⟩), q.vo, q.vi, .map (some q.r), .bool f] ∧ Blk w' b1 74 [.int .i64 e.n, .int .i64 e.sp, .string e.nm] ∧ MpI w' q.r m) (.take 0 (.take 1 (.take 2 (.take 3 (.take 4 (.take 5 (.take 6 (.take 7 (.last 8))))))))) (by rfl) (by kernel_rfl) (by kernel_rfl) (fun w5 hC5 _ => ⟨?_, ?_⟩)
  · exact ⟨hbs3.no hC5, hb3.no hC5, h3.mp.no hC5⟩
  have h5 := h3.no hC5
  iterate 2 (refine zs_take rfl (zt_pure rfl ?_))
  refine zs_rdL rfl want_none rfl (by decide) (fun _ hS => r_fa rfl) ?_
  refine zs_rdL rfl want_none rfl (by decide) (fun _ hS => r_loadB rfl hS.1 (by rfl)) ?_
  refine zs_rdL rfl want_none rfl (by decide) (fun _ hS => r_fa rfl) ?_
  refine zs_rdL rfl want_none rfl (by decide) (fun _ hS => r_loadB rfl hS.2.1 (by rfl)) ?_
  refine zs_rdL rfl (by first | exact want_none | exact want_L rfl) rfl (by decide) (fun _ hS => r_lookup u69 u9 z3 rfl rfl hS.2.2) ?_
  refine zs_rdL rfl want_none rfl (by decide) (fun _ hS => r_sub rfl rfl (by omega) (by omega)) ?_
  refine zs_mapUpdL rfl (by first | exact want_none | exact want_L rfl) u69 u9 rfl rfl rfl h5.mp (fun w6 g1 g2 g3 => ?_)
  skip
  rw [e1]
  exact zk_ret0 (.inl rfl) rfl ⟨rfl, h5.mapW g2 g1, hW3.trans ⟨((hC5.mono (S' := footS s q) (fun _ _ h => h.elim)).trans g2 (fun k hk he => .inr (.inr (.inr (.inl he))))), fun _ h => .inl h⟩⟩
end
end Go.Proofs.Yteeibieaapiomaa.D
