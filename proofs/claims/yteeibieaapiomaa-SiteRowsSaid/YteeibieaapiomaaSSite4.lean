import Derived.Test.YteeibieaapiomaaSSite3
/- A Site: an element comes. -/
namespace Go.Proofs.Yteeibieaapiomaa.D
open Go Go.Z Go.Proofs
set_option linter.unusedVariables false
section
variable {w w' w1 w2 : World} {s : Nat} {q q' q1 q2 : SP} {E E' : List Ent} {I I' : List Bool} {m m' : ByteArray → Int} {N N' : List ND} {f : Bool}
theorem IsS.growI (h : IsS w s q E I m N f) {v : Value} (hc : Chg w w1 (fun k => q.vi.ownBlock = some k)) (hO : Own w1 4 1 v I'.length (boolC I')) (hr : v.ownBlock = q.vi.ownBlock ∨ ∃ k, v.ownBlock = some k ∧ w.heap.size ≤ k)
    (hU : Upd w1 w2 s 72 [.pointer (some ⟨q.pd, 0, none⟩), .pointer (some ⟨q.pm, 0, none⟩), q.vo, v, .map (some q.r), .bool f]) : IsS w2 s { q with vi := v } E I' m N f ∧ WrS w w2 s q { q with vi := v } := by
  have hR : OneT w 4 (fun k => q.vi.ownBlock = some k) := fun k hk => h.iso.blk hk
  have hb1 := h.blk.typ hc hR (by decide)
  have hR1 : OneT w1 72 (fun k => k = s) := fun k hk => ⟨_, hk ▸ hb1⟩
  refine ⟨⟨hU.blk, (h.doc.typ hc hR (by decide) (by decide) (by decide) (by decide) (by decide) (by decide)).typ hU.chg hR1 (by decide) (by decide) (by decide) (by decide) (by decide) (by decide), (h.mrk.typ hc hR (by decide)).typ hU.chg hR1 (by decide), (h.own.typ hc hR (by decide)).typ hU.chg hR1 (by decide), hO.typ hU.chg hR1 (by decide), (h.mp.typ hc hR).typ hU.chg hR1⟩, ⟨(hc.mono (fun k _ hk => .inr (.inr (.inl hk)))).trans hU.chg (fun k _ hk => .inl hk), ?_⟩⟩
  rintro k (hk | hk | hk | hk | hk)
  · exact .inl (.inl hk)
  · exact .inl (.inr (.inl hk))
  · rcases hr with e | ⟨j, e, e2⟩
    · exact .inl (.inr (.inr (.inl (e ▸ hk))))
    · have hk : v.ownBlock = some k := hk
      rw [hk] at e; cases e; exact .inr e2
  · exact .inl (.inr (.inr (.inr (.inl hk))))
  · exact .inl (.inr (.inr (.inr (.inr hk))))
def comI (I : List Bool) (n : Nat) : List Bool := (I ++ List.replicate (n + 1 - I.length) false).set n true
set_option maxRecDepth 100000 in
set_option maxHeartbeats 8000000 in
theorem sComes_calls (h : IsS w s q E I m N f) (e : Ent) (he : e.n ≤ 1000000) (hI : I.length ≤ 1000000) (hm : SmallM m) : Calls Try.prog 51 [.pointer (some ⟨s, 0, none⟩), .agg #[.int .i64 e.n, .int .i64 e.sp, .string e.nm]].toArray w fun x w' => x = .returned (.tuple #[]) ∧ ∃ v, IsS w' s { q with vi := v } E (comI I e.n) (cntM m e 1) N f ∧ WrS w w' s q { q with vi := v } := by
  refine calls_zc (n := 39) (f := 51) (fn := Try.f51) Try.func51 rfl rfl (by simp) ?_
  refine zc_seq ?_
  refine zc_region ?_
  refine z_box (by first | exact want_none | exact want_L rfl) (by decide) rfl (fun w1 b1 hN1 => ?_)
  have hb1 : Blk w1 b1 74 [.int .i64 e.n, .int .i64 e.sp, .string e.nm] := hN1.blk
  have hge1 : w.heap.size ≤ b1 := hN1.ge (Chg.refl _ No)
  refine zl_nil ?_
  refine zk_seq ?_
  refine zc_seq ?_
  refine zc_block ?_
  refine zc_loopW (ι := Nat × Value) (fun k u => [(0, .pointer (some ⟨s, 0, none⟩)), (3, .pointer (some ⟨b1, 0, none⟩))])
    (fun k u => k.1 ≤ e.n + 1 - I.length ∧ IsS u s { q with vi := k.2 } E (I ++ List.replicate k.1 false) m N f ∧ WrS w u s q { q with vi := k.2 } ∧ Blk u b1 74 [.int .i64 e.n, .int .i64 e.sp, .string e.nm]) (fun k u => e.n + 1 - I.length - k.1) (0, q.vi)
    ⟨Nat.zero_le _, by simpa using h.no hN1.chg, WrS.of_no hN1.chg _ _, hb1⟩ ?_ ?_
  · exact ⟨rfl, rfl, trivial⟩
  rintro ⟨k, v⟩ u ⟨hk, hS, hW, hbu⟩
  dsimp only at hk hS hW hbu ⊢
  have hb := hS.blk
  obtain ⟨A, c, hv, hc⟩ := hS.iso.rd.form
  dsimp only at hv hb
  have hlen : (I ++ List.replicate k false).length = I.length + k := by simp
  rw [hlen] at hv hc
  subst hv
  iterate 2 (refine zc_seq ?_)
  refine zc_draw [] (fun w' => Blk w' s 72 [.pointer (some ⟨q.pd, 0, none⟩), .pointer (some ⟨q.pm, 0, none⟩), q.vo, .slice A (I.length + k) c, .map (some q.r), .bool f] ∧ Blk w' b1 74 [.int .i64 e.n, .int .i64 e.sp, .string e.nm]) (.take 0 (.take 1 (.take 2 (.take 3 (.take 4 (.take 5 (.take 6 (.take 7 (.fin))))))))) (by rfl) (by kernel_rfl) (by kernel_rfl) (fun u1 hC1 _ => ⟨?_, ?_⟩)
  · exact ⟨hb.no hC1, hbu.no hC1⟩
  have hS1 := hS.no hC1
  have hb1s := hb.no hC1
  have hbu1 := hbu.no hC1
  have hW1 := hW.no hC1
  by_cases hlt : I.length + k ≤ e.n
  · iterate 2 (refine zs_take rfl (zt_pure rfl ?_))
    refine zs_rdL rfl want_none rfl (by decide) (fun _ hS => r_fa rfl) ?_
    refine zs_rdL rfl want_none rfl (by decide) (fun _ hS => r_loadB rfl hS.1 (by rfl)) ?_
    refine zs_rdL rfl want_none rfl (by decide) (fun _ hS => r_len rfl) ?_
    refine zs_rdL rfl want_none rfl (by decide) (fun _ hS => r_fa rfl) ?_
    refine zs_rdL rfl want_none rfl (by decide) (fun _ hS => r_loadB rfl hS.2 (by rfl)) ?_
    refine zs_rdL rfl want_none rfl (by decide) (fun _ hS => r_cmpB (r := true) rfl rfl rfl (iff_of_true rfl (by omega))) ?_
    refine zs_fin ?_
    refine zk_seq ?_
    refine zc_true rfl ?_
    refine zc_skip ?_
    refine zk_seq ?_
    refine zc_block ?_
    refine zc_region ?_
    iterate 3 (refine zl_pureL rfl ?_)
    refine z_fa want_none (by decide) rfl ?_
    refine z_loadB want_none (by decide) rfl (by assumption) (by rfl) ?_
    refine z_bs1 (by first | exact want_none | exact want_L rfl) (by decide) rfl (by rfl) (by rfl) (by decide) (by decide) (fun u2 b2 hN2 => ?_)
    have hS2 := hS1.no hN2.chg
    have hI2 := hS2.iso
    dsimp only at hI2
    rw [hlen] at hI2
    have hr2 : RdS u2 4 1 (.slice (some ⟨b2, 0, none⟩) 1 1) 1 [.bool false] := RdS.new hN2 rfl (by simp [Value.oneCell'])
    refine z_appendO (by rfl) (by decide) (by first | exact want_none | exact want_L rfl) (by decide) rfl rfl hI2 hr2 (by omega) (by omega) (fun v3 u3 hO3 hX3 hr3 => ?_)
    have hR3 : OneT u2 4 (fun j => (Value.slice A (I.length + k) c).ownBlock = some j) := fun j hj => hI2.blk hj
    have hb3 := (hb1s.no hN2.chg).typ hX3 hR3 (by decide)
    obtain ⟨A3, c3, hv3, _⟩ := hO3.rd.form
    subst hv3
    refine zl_pureL rfl ?_
    refine z_fa want_none (by decide) rfl ?_
    refine z_store (by first | exact want_none | exact want_L rfl) rfl rfl rfl (by assumption) (by first | exact Nat.le_refl _ | simp [Value.cells]) (by simp [Value.cells, Value.oneCell']) (fun u4 hU4 => ?_)
    have e4 : I ++ List.replicate (k + 1) false = I ++ List.replicate k false ++ [false] := by rw [List.replicate_succ', List.append_assoc]
    obtain ⟨g1, g2⟩ := hS2.growI (I' := I ++ List.replicate (k + 1) false) (v := .slice A3 (I.length + k + 1) c3) hX3 (by
      have e5 : (I ++ List.replicate (k + 1) false).length = I.length + k + 1 := by simp; omega
      rw [e5, e4]
      have : boolC (I ++ List.replicate k false ++ [false]) = boolC (I ++ List.replicate k false) ++ [.bool false] := by simp [boolC]
      rw [this]; exact hO3) hr3 hU4
    have hb4 := ((hbu1.no hN2.chg).typ hX3 hR3 (by decide)).typ hU4.chg (fun j hj => ⟨_, hj ▸ hb3⟩) (by decide)
    refine zl_nil ?_
    refine zk_norm_block ?_
    refine zk_loopW (k + 1, .slice A3 (I.length + k + 1) c3) ⟨by dsimp only; omega, g1, (hW1.no hN2.chg).trans g2, hb4⟩ (by show e.n + 1 - I.length - (k + 1) < e.n + 1 - I.length - k; omega) ⟨rfl, rfl, trivial⟩
  · have hk' : k = e.n + 1 - I.length := by omega
    obtain ⟨bi, ci, hvi, hci⟩ := own_b hS1.iso (by omega)
    dsimp only at hvi
    rw [hlen] at hvi hci
    cases hvi
    iterate 2 (refine zs_take rfl (zt_pure rfl ?_))
    refine zs_rdL rfl want_none rfl (by decide) (fun _ hS => r_fa rfl) ?_
    refine zs_rdL rfl want_none rfl (by decide) (fun _ hS => r_loadB rfl hS.1 (by rfl)) ?_
    refine zs_rdL rfl want_none rfl (by decide) (fun _ hS => r_len rfl) ?_
    refine zs_rdL rfl want_none rfl (by decide) (fun _ hS => r_fa rfl) ?_
    refine zs_rdL rfl want_none rfl (by decide) (fun _ hS => r_loadB rfl hS.2 (by rfl)) ?_
    refine zs_rdL rfl want_none rfl (by decide) (fun _ hS => r_cmpB (r := false) rfl rfl rfl (iff_of_false Bool.false_ne_true (by omega))) ?_
    refine zs_fin ?_
    refine zk_seq ?_
    refine zc_false rfl ?_
    refine zc_exit ?_
    iterate 2 (refine zk_exit_then ?_)
    refine zk_exit_block ?_
    refine zk_seq ?_
    refine zc_seq ?_
    refine zc_draw [7] (fun w' => Blk w' s 72 [.pointer (some ⟨q.pd, 0, none⟩), .pointer (some ⟨q.pm, 0, none⟩), q.vo, .slice (some ⟨bi, 0, none⟩) (I.length + k) c, .map (some q.r), .bool f] ∧ Blk w' b1 74 [.int .i64 e.n, .int .i64 e.sp, .string e.nm]) (.take 0 (.take 1 (.take 2 (.take 3 (.take 4 (.take 5 (.take 6 (.last 7)))))))) (by rfl) (by kernel_rfl) (by kernel_rfl) (fun u2 hC2 _ => ⟨?_, ?_⟩)
    · exact ⟨hb1s.no hC2, hbu1.no hC2⟩
    have hS2 := hS1.no hC2
    have hI2 := hS2.iso
    dsimp only at hI2
    rw [hlen] at hI2
    obtain ⟨cells, hB, hfit, _, hnew⟩ := hI2.lay (o := e.n) (vs := [.bool true]) (by simp [boolC]; omega) (by simp [Value.oneCell'])
    iterate 2 (refine zs_take rfl (zt_pure rfl ?_))
    refine zs_rdL rfl want_none rfl (by decide) (fun _ hS => r_fa rfl) ?_
    refine zs_rdL rfl want_none rfl (by decide) (fun _ hS => r_loadB rfl hS.1 (by rfl)) ?_
    refine zs_rdL rfl want_none rfl (by decide) (fun _ hS => r_fa rfl) ?_
    refine zs_rdL rfl want_none rfl (by decide) (fun _ hS => r_loadB rfl hS.2 (by rfl)) ?_
    refine zs_rdL rfl want_none rfl (by decide) (fun _ hS => r_ia rfl rfl (by omega) (by omega)) ?_
    refine zs_storeL (o := e.n) rfl (by first | exact want_none | exact want_L rfl) (ev_ptr rfl (by omega)) rfl rfl hB (show e.n + 1 ≤ cells.length by simpa using hfit) (by simp [Value.cells, Value.oneCell']) (fun u3 hU3 => ?_)
    have hI3 := hnew u3 hU3
    rw [lay_one _ (by simp [boolC]; omega)] at hI3
    have hR3 : OneT u2 4 (fun j => j = bi) := fun j hj => ⟨_, hj ▸ hB⟩
    have hS3 : IsS u3 s { q with vi := .slice (some ⟨bi, 0, none⟩) (I.length + k) c } E (comI I e.n) m N f := hS2.isoW hU3.chg hR3 (by
      unfold comI
      rw [← hk', List.length_set, hlen]
      have : boolC ((I ++ List.replicate k false).set e.n true) = (boolC (I ++ List.replicate k false)).set e.n (.bool true) := by simp [boolC, List.map_set]
      rw [this]; exact hI3)
    have hW3 : WrS w u3 s q { q with vi := .slice (some ⟨bi, 0, none⟩) (I.length + k) c } := (hW1.no hC2).trans ⟨hU3.chg.mono (fun j _ hj => .inr (.inr (.inl (by rw [hj]; rfl)))), fun _ h => .inl h⟩
    have hb3 := (hbu1.no hC2).typ hU3.chg hR3 (by decide)
    have hbs3 := hS3.blk
    dsimp only at hbs3
    refine zk_seq ?_
    refine zc_seq ?_
    refine zc_region ?_
    refine z_fa want_none (by decide) rfl ?_
    refine z_loadB want_none (by decide) rfl (by assumption) (by rfl) ?_
    by_cases hsp : e.sp = 1
    rotate_left
    · refine z_cmpB (r := false) want_none (by decide) rfl rfl rfl (iff_of_false Bool.false_ne_true (by omega)) ?_
      refine zl_nil ?_
      refine zk_seq ?_
      refine zc_false rfl ?_
      refine zc_skip ?_
      have e1 : cntM m e 1 = m := by unfold cntM; rw [if_neg hsp]
      rw [← e1] at hS3
      exact zk_ret0 (.inl rfl) rfl ⟨rfl, _, hS3, hW3⟩
    have e1 : cntM m e 1 = updM m e.nm (m e.nm + 1) := by unfold cntM; rw [if_pos hsp]
    have hmk := hm e.nm
    refine z_cmpB (r := true) want_none (by decide) rfl rfl rfl (iff_of_true rfl (by omega)) ?_
    refine zl_nil ?_
    refine zk_seq ?_
    refine zc_true rfl ?_
    refine zc_draw [8] (fun w' => Blk w' s 72 [.pointer (some ⟨q.pd, 0, none⟩), .pointer (some ⟨q.pm, 0, none⟩), q.vo, .slice (some ⟨bi, 0, none⟩) (I.length + k) c, .map (some q.r), .bool f] ∧ Blk w' b1 74 [.int .i64 e.n, .int .i64 e.sp, .string e.nm] ∧ MpI w' q.r m) (.take 0 (.take 1 (.take 2 (.take 3 (.take 4 (.take 5 (.take 6 (.take 7 (.last 8))))))))) (by rfl) (by kernel_rfl) (by kernel_rfl) (fun u5 hC5 _ => ⟨?_, ?_⟩)
    · exact ⟨hbs3.no hC5, hb3.no hC5, hS3.mp.no hC5⟩
    have h5 := hS3.no hC5
    iterate 2 (refine zs_take rfl (zt_pure rfl ?_))
    refine zs_rdL rfl want_none rfl (by decide) (fun _ hS => r_fa rfl) ?_
    refine zs_rdL rfl want_none rfl (by decide) (fun _ hS => r_loadB rfl hS.1 (by rfl)) ?_
    refine zs_rdL rfl want_none rfl (by decide) (fun _ hS => r_fa rfl) ?_
    refine zs_rdL rfl want_none rfl (by decide) (fun _ hS => r_loadB rfl hS.2.1 (by rfl)) ?_
    refine zs_rdL rfl (by first | exact want_none | exact want_L rfl) rfl (by decide) (fun _ hS => r_lookup u69 u9 z3 rfl rfl hS.2.2) ?_
    refine zs_rdL rfl want_none rfl (by decide) (fun _ hS => r_add rfl rfl (by omega) (by omega)) ?_
    refine zs_mapUpdL rfl (by first | exact want_none | exact want_L rfl) u69 u9 rfl rfl rfl h5.mp (fun w6 g1 g2 g3 => ?_)
    skip
    rw [e1]
    exact zk_ret0 (.inl rfl) rfl ⟨rfl, _, h5.mapW g2 g1, hW3.trans ⟨((hC5.mono (S' := footS s _) (fun _ _ h => h.elim)).trans g2 (fun k hk he => .inr (.inr (.inr (.inl he))))), fun _ h => .inl h⟩⟩
end
end Go.Proofs.Yteeibieaapiomaa.D
