import Derived.Test.YtjiehalanklapaaDPlay
/- Both Docs tell the same. -/
namespace Go.Z
open Go
section
variable {P : Program} {n : Nat} {e : Env} {w : World} {Q : Exit → Act → World → Prop} {ops : Array Oper} {rest : List Oper}
theorem z_field {d : Tmp} {ty : TypeId} {pos : String} {aft : Array Edge} {g : Option (Nat × Bool)} {s f : Nat} {x : Operand} {v u : Value} (hw : Want ops e g) (hdn : d < n) (hx : ev e x = some v) (hf : (Instr.field s v f).run P w = .ok u w) (h : ZL P n ops rest ((d, u) :: e) w Q) :
    ZL P n ops (⟨some d, .field s x f, ty, pos, aft, g⟩ :: rest) e w Q := zl_run hw rfl hdn (fun a ha => by simp [execOp, ha.ev hx, hf]) h
end
end Go.Z
namespace Go.Proofs.Ytjiehalanklapaa.D
open Go Go.Z Go.Proofs
set_option linter.unusedVariables false
theorem fld6 (w : World) (c0 c1 c2 c3 c4 c5 c6 : Value) : (Instr.field 48 (.agg #[c0, c1, c2, c3, c4, c5, c6]) 6).run Try.prog w = .ok c6 w := by kernel_rfl
set_option maxRecDepth 100000 in
set_option maxHeartbeats 16000000 in
theorem both_calls {w : World} {p p' W : Nat} {N : List ND} (h : BB w p p' W N N) (hW : WF N) (hl : N.length ≤ 1000) {m : Nat} (hB : BT m N) (hm : m ≤ 1000000000) :
    Calls Try.prog 38 [.pointer (some ⟨p, 0, none⟩), .pointer (some ⟨p', 0, none⟩)].toArray w fun e w' => e = .returned (.bool true) ∧ Chg w w' No := by
  obtain ⟨vl, Q, vn, vu, vr, ms, ks, hD, hR, hs, h1, h2⟩ := h.ex
  have hbr := hR.blk
  obtain ⟨An, cn, hvn, hcn⟩ := hR.formN
  subst hvn
  obtain ⟨t, ht⟩ := hW.tree (N.getD 0 n0).kids (fun k hk => ((hW.kid 0 k hW.pos).1 hk).1)
  have hts := ht.size hW hW.pos
  have hBg := hB.big hm
  have hfew := ht.few (fun i => (hBg i).2)
  refine calls_zc (n := 87) (f := 38) (fn := Try.f38) Try.func38 rfl rfl (by simp) ?_
  refine zc_seq ?_
  refine zc_region ?_
  refine zl_pureL rfl ?_
  refine zl_nil ?_
  refine zk_seq ?_
  iterate 2 (refine zc_seq ?_)
  refine zc_draw [] (fun w' => Chg w w' No ∧ Blk w' p' 63 [.slice An N.length cn, vu, vr]) (.take 0 (.take 2 (.take 3 (.take 4 (.take 5 (.take 6 (.all1 1 (.take 7 (.take 8 (.take 9 (.take 11 (.all1 10 (.all1 12 (.all1 13 (.take 14 (.take 15 (.fin))))))))))))))))) (by rfl) (by kernel_rfl) (by kernel_rfl) (fun w1 hC1 _ => ⟨?_, ?_⟩)
  · exact ⟨hC1, hbr.no hC1⟩
  iterate 3 (refine zs_take rfl (zt_pure rfl ?_))
  refine zs_rdL rfl want_none rfl (by decide) (fun _ hS => r_fa rfl) ?_
  refine zs_rdL rfl want_none rfl (by decide) (fun _ hS => r_loadB rfl hS.2 (by rfl)) ?_
  refine zs_rdL rfl want_none rfl (by decide) (fun _ hS => r_len rfl) ?_
  refine zs_call rfl (by first | exact want_none | exact want_L rfl) rfl (by decide) rfl (size_calls (hD.no hC1)) ?_
  rintro _ u ⟨rfl, hu⟩
  obtain rfl := hu.symm
  refine ⟨_, rfl, ⟨hC1, hbr.no hC1⟩, ?_⟩
  refine zs_rdL rfl want_none rfl (by decide) (fun _ hS => r_cmpB (r := false) rfl rfl rfl (iff_of_false Bool.false_ne_true (by omega))) ?_
  iterate 3 (refine zs_take rfl (zt_pure rfl ?_))
  refine zs_call rfl (by first | exact want_none | exact want_L rfl) rfl (by decide) rfl (tree_calls hW (by omega) hBg t.size (hD.no hC1) 0 hW.pos t ht (Nat.le_refl _)) ?_
  rintro _ w2 ⟨v2, rfl, hT2, hX2⟩
  have hC2 : Chg w w2 No := hC1.no hX2
  refine ⟨_, rfl, ⟨hC2, hbr.no hC2⟩, ?_⟩
  skip
  refine zs_call rfl (by first | exact want_none | exact want_L rfl) rfl (by decide) rfl (rTree_calls hW (by omega) t.size (hR.no hC2) 0 hW.pos t ht (Nat.le_refl _)) ?_
  rintro _ w3 ⟨v3, rfl, hT3, hX3⟩
  have hC3 : Chg w w3 No := hC2.no hX3
  refine ⟨_, rfl, ⟨hC3, hbr.no hC3⟩, ?_⟩
  skip
  refine zs_call rfl (by first | exact want_none | exact want_L rfl) rfl (by decide) rfl (sameR_calls t.size ((hT2.at').no hX3) hT3.at' hfew hfew (Nat.le_refl _) (by omega)) ?_
  rintro _ w4 ⟨q4, rfl, hq4, hX4⟩
  obtain rfl : q4 = true := hq4.2 rfl
  have hC4 : Chg w w4 No := hC3.no hX4
  refine ⟨_, rfl, ⟨hC4, hbr.no hC4⟩, ?_⟩
  iterate 2 (refine zs_take rfl (zt_pure rfl ?_))
  refine zs_fin ?_
  refine zk_seq ?_
  refine zc_false rfl ?_
  refine zc_skip ?_
  refine zk_seq ?_
  iterate 2 (refine zc_seq ?_)
  refine zc_region ?_
  refine zl_pureL rfl ?_
  refine zl_nil ?_
  refine zk_seq ?_
  refine zc_block ?_
  refine zc_loopW (ι := Nat) (fun k u => [(0, .pointer (some ⟨p, 0, none⟩)), (1, .pointer (some ⟨p', 0, none⟩)), (5, .int .i64 ((k : Int) - 1))]) (fun k u => k ≤ N.length + 2 ∧ Chg w u No) (fun k u => N.length + 2 - k) 0 ⟨Nat.zero_le _, hC4⟩ ?_ ?_
  · exact ⟨rfl, rfl, rfl, trivial⟩
  rintro k u ⟨hk, hC⟩
  have hbu := hbr.no hC
  by_cases hend : k = N.length + 2
  · subst hend
    iterate 2 (refine zc_seq ?_)
    refine zc_region ?_
    iterate 3 (refine zl_pureL rfl ?_)
    refine z_fa want_none (by decide) rfl ?_
    refine z_loadB want_none (by decide) rfl (by assumption) (by rfl) ?_
    refine z_len want_none (by decide) rfl ?_
    refine z_cmpB (r := false) want_none (by decide) rfl rfl rfl (iff_of_false Bool.false_ne_true (by omega)) ?_
    refine zl_nil ?_
    refine zk_seq ?_
    refine zc_false rfl ?_
    refine zc_exit ?_
    iterate 2 (refine zk_exit_then ?_)
    refine zk_exit_block ?_
    refine zk_seq ?_
    refine zc_seq ?_
    refine zc_region ?_
    refine zl_pureL rfl ?_
    refine zl_nil ?_
    refine zk_seq ?_
    refine zc_ret ?_
    exact zk_ret1 (.inr rfl) rfl rfl ⟨rfl, hC⟩
  obtain ⟨n, hn⟩ : ∃ n : Int, n = (k : Int) - 1 := ⟨_, rfl⟩
  rw [← hn]
  have hkl : (ndOf N n).kids.length ≤ 100000 := by
    unfold ndOf
    rcases Nat.lt_or_ge n.toNat N.length with hi | hi
    · have := hW.kids_len hi; omega
    · rw [List.getD_eq_getElem?_getD, List.getElem?_eq_none hi]; exact Nat.zero_le _
  obtain ⟨K, hK⟩ : ∃ K, K = (if isN N n then (ndOf N n).kids else []) := ⟨_, rfl⟩
  have hKl : K.length ≤ 100000 := by rw [hK]; split; exact hkl; exact Nat.zero_le _
  iterate 2 (refine zc_seq ?_)
  refine zc_region ?_
  iterate 3 (refine zl_pureL rfl ?_)
  refine z_fa want_none (by decide) rfl ?_
  refine z_loadB want_none (by decide) rfl (by assumption) (by rfl) ?_
  refine z_len want_none (by decide) rfl ?_
  refine z_cmpB (r := true) want_none (by decide) rfl rfl rfl (iff_of_true rfl (by omega)) ?_
  refine zl_nil ?_
  refine zk_seq ?_
  refine zc_true rfl ?_
  refine zc_skip ?_
  refine zk_seq ?_
  refine zc_seq ?_
  refine zc_block ?_
  refine zc_seq ?_
  refine zc_region ?_
  iterate 2 (refine zl_pureL rfl ?_)
  refine zl_call (by first | exact want_none | exact want_L rfl) rfl (by decide) rfl (kids_calls (hD.no hC) n hkl) ?_
  rintro _ u1 ⟨v1, rfl, hI1, hX1⟩
  refine ⟨_, rfl, ?_⟩
  have hCa : Chg w u1 No := hC.no hX1
  refine zl_pureL rfl ?_
  refine zl_nil ?_
  refine zk_seq ?_
  refine zc_seq ?_
  refine zc_region ?_
  iterate 2 (refine zl_pureL rfl ?_)
  refine zl_call (by first | exact want_none | exact want_L rfl) rfl (by decide) rfl (rKids_calls (hR.no hCa) n) ?_
  rintro _ z ⟨vk, rfl, hI2, hz⟩
  obtain rfl := hz.symm
  refine ⟨_, rfl, ?_⟩
  rw [← hK] at hI1 hI2
  obtain ⟨A1, c1, rfl, _⟩ := hI1.form
  obtain ⟨A2, c2, rfl, _⟩ := hI2.form
  refine zl_pureL rfl ?_
  refine zl_nil ?_
  refine zk_seq ?_
  iterate 2 (refine zc_seq ?_)
  refine zc_region ?_
  iterate 2 (refine zl_pureL rfl ?_)
  refine zl_call (by first | exact want_none | exact want_L rfl) rfl (by decide) rfl (up_calls (hD.no hCa) n) ?_
  rintro _ z ⟨rfl, hz⟩
  obtain rfl := hz.symm
  refine ⟨_, rfl, ?_⟩
  iterate 2 (refine zl_pureL rfl ?_)
  refine zl_call (by first | exact want_none | exact want_L rfl) rfl (by decide) rfl (rUp_calls (hR.no hCa) n) ?_
  rintro _ z ⟨rfl, hz⟩
  obtain rfl := hz.symm
  refine ⟨_, rfl, ?_⟩
  refine z_cmpB (r := false) want_none (by decide) rfl rfl rfl (iff_of_false Bool.false_ne_true (by omega)) ?_
  iterate 3 (refine zl_pureL rfl ?_)
  refine zl_call (by first | exact want_none | exact want_L rfl) rfl (by decide) rfl (node_calls (hD.no hCa) hBg n) ?_
  rintro _ u2 ⟨va, rfl, hA2, _, hX2'⟩
  have hCb : Chg w u2 No := hCa.no hX2'
  refine ⟨_, rfl, ?_⟩
  iterate 2 (refine zl_pureL rfl ?_)
  refine zl_call (by first | exact want_none | exact want_L rfl) rfl (by decide) rfl (rNode_calls (hR.no hCb) n) ?_
  rintro _ u3 ⟨vb, rfl, hA3, hX3'⟩
  have hCc : Chg w u3 No := hCb.no hX3'
  refine ⟨_, rfl, ?_⟩
  have hal : (nodeOf N n).attrs.length ≤ 100000 := by
    unfold nodeOf
    split
    · exact (hBg n.toNat).2
    · exact Nat.zero_le _
  skip
  refine zl_call (by first | exact want_none | exact want_L rfl) rfl (by decide) rfl (one_calls (x := hdOf (nodeOf N n)) (y := hdOf (nodeOf N n)) (hA2.no hX3') hA3 TreeAt.nil TreeAt.nil hal hal) ?_
  rintro _ u4 ⟨q5, rfl, hq5, hX4'⟩
  obtain rfl : q5 = true := hq5.2 rfl
  have hCd : Chg w u4 No := hCc.no hX4'
  refine ⟨_, rfl, ?_⟩
  iterate 5 (refine zl_pureL rfl ?_)
  refine zl_call (by first | exact want_none | exact want_L rfl) rfl (by decide) rfl (node_calls (hD.no hCd) hBg n) ?_
  rintro _ u5 ⟨vc, rfl, hA5, _, hX5'⟩
  have hCe : Chg w u5 No := hCd.no hX5'
  refine ⟨_, rfl, ?_⟩
  skip
  refine z_field (by first | exact want_none | exact want_L rfl) (by decide) rfl (fld6 _ _ _ _ _ _ _ _) ?_
  have hX15 : Chg u1 u5 No := (hX2'.no hX3').no (hX4'.no hX5')
  refine z_len (want_L rfl) (by decide) rfl ?_
  refine z_cmpB (r := false) (want_L rfl) (by decide) rfl rfl rfl (iff_of_false Bool.false_ne_true (by omega)) ?_
  iterate 3 (refine zl_pureL rfl ?_)
  refine z_len (want_L rfl) (by decide) rfl ?_
  refine zl_pureL rfl ?_
  refine z_len (want_L rfl) (by decide) rfl ?_
  refine z_cmpB (r := false) (want_L rfl) (by decide) rfl rfl rfl (iff_of_false Bool.false_ne_true (by omega)) ?_
  refine zl_pureL rfl ?_
  refine zl_nil ?_
  refine zk_seq ?_
  refine zc_false rfl ?_
  refine zc_skip ?_
  refine zk_seq ?_
  refine zc_seq ?_
  refine zc_region ?_
  refine zl_pureL rfl ?_
  refine zl_nil ?_
  refine zk_seq ?_
  refine zc_block ?_
  refine zc_loopW (ι := Nat) (fun j v => [(0, .pointer (some ⟨p, 0, none⟩)), (1, .pointer (some ⟨p', 0, none⟩)), (5, .int .i64 n), (6, .slice A1 K.length c1), (7, .slice A2 K.length c2), (8, .int .i64 j)]) (fun j v => j ≤ K.length ∧ Chg u5 v No) (fun j v => K.length - j) 0 ⟨Nat.zero_le _, Chg.refl _ _⟩ ?_ ?_
  · exact ⟨rfl, rfl, rfl, rfl, rfl, rfl, trivial⟩
  rintro j v ⟨hj, hCv⟩
  have hX1v : Chg u1 v No := hX15.no hCv
  by_cases hlt : j < K.length
  · obtain ⟨ba, oa, ca, hva, _, hca⟩ := RdS.some (hI1.1.no hX1v).rd (by omega)
    cases hva
    obtain ⟨bb, ob, cb, hvb, _, hcb⟩ := RdS.some (hI2.no hX1v) (by omega)
    cases hvb
    have g1 := hca j _ (intC_get K j hlt)
    have g2 := hcb j _ (intC_get K j hlt)
    iterate 2 (refine zc_seq ?_)
    refine zc_region ?_
    iterate 2 (refine zl_pureL rfl ?_)
    refine z_len want_none (by decide) rfl ?_
    refine z_cmpB (r := true) want_none (by decide) rfl rfl rfl (iff_of_true rfl (by omega)) ?_
    refine zl_nil ?_
    refine zk_seq ?_
    refine zc_true rfl ?_
    refine zc_skip ?_
    refine zk_seq ?_
    refine zc_seq ?_
    refine zc_block ?_
    refine zc_seq ?_
    refine zc_draw [] (fun w' => Chg v w' No) (.take 0 (.take 1 (.take 2 (.take 3 (.take 4 (.take 5 (.take 6 (.take 7 (.take 8 (.fin)))))))))) (by rfl) (by kernel_rfl) (by kernel_rfl) (fun z1 hZ1 _ => ⟨?_, ?_⟩)
    · exact hZ1
    iterate 2 (refine zs_take rfl (zt_pure rfl ?_))
    refine zs_rdL rfl want_none rfl (by decide) (fun _ hS => r_ia rfl rfl (by omega) (by omega)) ?_
    refine zs_rdL rfl (by first | exact want_none | exact want_L rfl) rfl (by decide) (fun _ hS => r_load1 rfl (cell_at (cell_no hS g1) (by omega))) ?_
    iterate 2 (refine zs_take rfl (zt_pure rfl ?_))
    refine zs_rdL rfl want_none rfl (by decide) (fun _ hS => r_ia rfl rfl (by omega) (by omega)) ?_
    refine zs_rdL rfl (by first | exact want_none | exact want_L rfl) rfl (by decide) (fun _ hS => r_load1 rfl (cell_at (cell_no hS g2) (by omega))) ?_
    refine zs_rdL rfl want_none rfl (by decide) (fun _ hS => r_cmpB (r := false) rfl rfl rfl (iff_of_false Bool.false_ne_true (by omega))) ?_
    refine zs_fin ?_
    refine zk_seq ?_
    refine zc_false rfl ?_
    refine zc_skip ?_
    refine zk_norm_block ?_
    refine zk_seq ?_
    refine zc_region ?_
    refine zl_pureL rfl ?_
    refine z_add want_none (by decide) rfl rfl (by omega) (by omega) ?_
    refine zl_pureL rfl ?_
    refine zl_nil ?_
    exact zk_loopW (j + 1) ⟨by omega, hCv.no hZ1⟩ (by omega) ⟨rfl, rfl, rfl, rfl, rfl, get_int rfl (by simp), trivial⟩
  · obtain rfl : j = K.length := by omega
    iterate 2 (refine zc_seq ?_)
    refine zc_region ?_
    iterate 2 (refine zl_pureL rfl ?_)
    refine z_len want_none (by decide) rfl ?_
    refine z_cmpB (r := false) want_none (by decide) rfl rfl rfl (iff_of_false Bool.false_ne_true (by omega)) ?_
    refine zl_nil ?_
    refine zk_seq ?_
    refine zc_false rfl ?_
    refine zc_exit ?_
    iterate 2 (refine zk_exit_then ?_)
    refine zk_exit_block ?_
    refine zk_norm_block ?_
    refine zk_seq ?_
    refine zc_region ?_
    refine zl_pureL rfl ?_
    refine z_add want_none (by decide) rfl rfl (by omega) (by omega) ?_
    refine zl_pureL rfl ?_
    refine zl_nil ?_
    exact zk_loopW (k + 1) ⟨by omega, hCe.no hCv⟩ (by omega) ⟨rfl, rfl, get_int rfl (by omega), trivial⟩
end Go.Proofs.Ytjiehalanklapaa.D
