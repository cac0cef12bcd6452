import Derived.Test.YtbcmiijollpgeaaGreatWK
set_option maxHeartbeats 32000000
set_option maxRecDepth 100000
set_option linter.unusedVariables false
set_option linter.unusedSimpArgs false
namespace Go.Proofs.YtbcmiijollpgeaaGreat.D
open Go Go.Z Go.Proofs
def X1:List UInt8:= [98,111,100,121,32,104,116,109,108]
def X2:List UInt8:= [98,117,116,116,111,110,32,108,105,115,116,105,110,103,32,112,114,101]
section
variable {w w' w0 w1 w2 : World} {b t : Nat} {q q' q1 : SQ} {N N' : List ND} {n m k : Nat} {R R' : List Nat} {f g : FE} {fr fr' : List FE} {sk sk' : Bool} {x : Value} {e : Ending}
theorem ends_block (h:IsB w b t q N (n::m::R) (f::g::fr) sk) (hM:MOk q.M (n::m::R) (f::g::fr)) (hf:fr.length≤700) (hn:f.nm∈([[111,108],[117,108],[98,108,111,99,107,113,117,111,116,101]]:List (List UInt8))):
  Calls Tryz.prog 133 [.pointer (some ⟨b,0,none⟩),T.tokV 2 f.nm T.nS []].toArray w (BPost w b t q (g.shut f::fr) sk N.length (.tuple #[])):=by
 unfold T.tokV
 refine zCz 140 Tryz.func133 ?_
 refine zS (zR ?_)
 refine zBx rfl (fun w1 b3 hN1=> ?_)
 have hb30:Blk w1 b3 66 [.int .i64 2,.string (bs f.nm),.slice none 0 0,.bool false,.string (bs [])]:=hN1.blk
 have h1:=h.no hN1.chg
 have hb0:=h1.blk
 have hb:=hb0
 have hb3:=hb30
 have C:Chg w1 w1 No:=Chg.refl _ _
 refine zz ?_
 refine zCr rfl (B.in_calls f.nm X1 (by decide)) fun w2 hC=> ?_
 rw [decide_eq_false ((show∀a∈([[111,108],[117,108],[98,108,111,99,107,113,117,111,116,101]]:List (List UInt8)),a∉B.wd X1 by decide+kernel) f.nm hn)]
 have C:=C.no hC
 have hb:=hb0.no C
 have hb3:=hb30.no C
 refine zz ?_
 refine zEq rfl rfl (fun hq=>absurd hq ((show∀a∈([[111,108],[117,108],[98,108,111,99,107,113,117,111,116,101]]:List (List UInt8)),a≠ [98,114] by decide+kernel) f.nm hn)) (fun _=> ?_)
 refine zz ?_
 refine z_neL (want_L rfl) (by decide) rfl rfl (fun _=> ?_) (fun hq=>absurd hq ((show∀a∈([[111,108],[117,108],[98,108,111,99,107,113,117,111,116,101]]:List (List UInt8)),a≠ [112] by decide+kernel) f.nm hn))
 refine zP rfl (zP rfl ?_)
 refine zCr rfl (B.has_calls 6 f.nm (by decide) (by decide)) fun w3 hC=> ?_
 rw [decide_eq_true ((show∀a∈([[111,108],[117,108],[98,108,111,99,107,113,117,111,116,101]]:List (List UInt8)),a∈B.wd (B.setW 6) by decide+kernel) f.nm hn)]
 have C:=C.no hC
 have hb:=hb0.no C
 have hb3:=hb30.no C
 refine zz ?_
 refine zCl rfl (shut_calls (h1.no C) hM (by omega) ((show∀a∈([[111,108],[117,108],[98,108,111,99,107,113,117,111,116,101]]:List (List UInt8)),a∉fmtN by decide+kernel) f.nm hn) ((show∀a∈([[111,108],[117,108],[98,108,111,99,107,113,117,111,116,101]]:List (List UInt8)),a∉cellN by decide+kernel) f.nm hn) [] (fun hi=>absurd hi ((show∀a∈([[111,108],[117,108],[98,108,111,99,107,113,117,111,116,101]]:List (List UInt8)),a∉B.wd (B.setW 4) by decide+kernel) f.nm hn)) 1 (by decide)) ?_
 rintro _ wz hp
 obtain rfl:=hp.1
 refine ⟨_,rfl,?_⟩
 refine zN (zM ?_)
 exact zk_ret0 (.inl rfl) rfl (BPost.ret (BPost.pre (hN1.chg.no C) hp) (Chg.refl _ _))
theorem ends_pre (h:IsB w b t q N (n::m::R) (f::g::fr) sk) (hM:MOk q.M (n::m::R) (f::g::fr)) (hf:fr.length≤700) (hn:f.nm∈([[112,114,101]]:List (List UInt8))):
  Calls Tryz.prog 133 [.pointer (some ⟨b,0,none⟩),T.tokV 2 f.nm T.nS []].toArray w (BPost w b t q (g.shut f::fr) sk N.length (.tuple #[])):=by
 unfold T.tokV
 refine zCz 140 Tryz.func133 ?_
 refine zS (zR ?_)
 refine zBx rfl (fun w1 b3 hN1=> ?_)
 have hb30:Blk w1 b3 66 [.int .i64 2,.string (bs f.nm),.slice none 0 0,.bool false,.string (bs [])]:=hN1.blk
 have h1:=h.no hN1.chg
 have hb0:=h1.blk
 have hb:=hb0
 have hb3:=hb30
 have C:Chg w1 w1 No:=Chg.refl _ _
 refine zz ?_
 refine zCr rfl (B.in_calls f.nm X1 (by decide)) fun w2 hC=> ?_
 rw [decide_eq_false ((show∀a∈([[112,114,101]]:List (List UInt8)),a∉B.wd X1 by decide+kernel) f.nm hn)]
 have C:=C.no hC
 have hb:=hb0.no C
 have hb3:=hb30.no C
 refine zz ?_
 refine zEq rfl rfl (fun hq=>absurd hq ((show∀a∈([[112,114,101]]:List (List UInt8)),a≠ [98,114] by decide+kernel) f.nm hn)) (fun _=> ?_)
 refine zz ?_
 refine z_neL (want_L rfl) (by decide) rfl rfl (fun _=> ?_) (fun hq=>absurd hq ((show∀a∈([[112,114,101]]:List (List UInt8)),a≠ [112] by decide+kernel) f.nm hn))
 refine zP rfl (zP rfl ?_)
 refine zCr rfl (B.has_calls 6 f.nm (by decide) (by decide)) fun w3 hC=> ?_
 rw [decide_eq_false ((show∀a∈([[112,114,101]]:List (List UInt8)),a∉B.wd (B.setW 6) by decide+kernel) f.nm hn)]
 have C:=C.no hC
 have hb:=hb0.no C
 have hb3:=hb30.no C
 refine zP rfl (zP rfl (zP rfl ?_))
 refine zCr rfl (B.in_calls f.nm X2 (by decide)) fun w4 hC=> ?_
 rw [decide_eq_true ((show∀a∈([[112,114,101]]:List (List UInt8)),a∈B.wd X2 by decide+kernel) f.nm hn)]
 have C:=C.no hC
 have hb:=hb0.no C
 have hb3:=hb30.no C
 refine zz ?_
 refine zCl rfl (shut_calls (h1.no C) hM (by omega) ((show∀a∈([[112,114,101]]:List (List UInt8)),a∉fmtN by decide+kernel) f.nm hn) ((show∀a∈([[112,114,101]]:List (List UInt8)),a∉cellN by decide+kernel) f.nm hn) [] (fun hi=>absurd hi ((show∀a∈([[112,114,101]]:List (List UInt8)),a∉B.wd (B.setW 4) by decide+kernel) f.nm hn)) 1 (by decide)) ?_
 rintro _ wz hp
 obtain rfl:=hp.1
 refine ⟨_,rfl,?_⟩
 refine zN (zM ?_)
 exact zk_ret0 (.inl rfl) rfl (BPost.ret (BPost.pre (hN1.chg.no C) hp) (Chg.refl _ _))
theorem ends_li (h:IsB w b t q N (n::m::R) (f::g::fr) sk) (hM:MOk q.M (n::m::R) (f::g::fr)) (hf:fr.length≤700) (hn:f.nm∈([[108,105]]:List (List UInt8))):
  Calls Tryz.prog 133 [.pointer (some ⟨b,0,none⟩),T.tokV 2 f.nm T.nS []].toArray w (BPost w b t q (g.shut f::fr) sk N.length (.tuple #[])):=by
 unfold T.tokV
 refine zCz 140 Tryz.func133 ?_
 refine zS (zR ?_)
 refine zBx rfl (fun w1 b3 hN1=> ?_)
 have hb30:Blk w1 b3 66 [.int .i64 2,.string (bs f.nm),.slice none 0 0,.bool false,.string (bs [])]:=hN1.blk
 have h1:=h.no hN1.chg
 have hb0:=h1.blk
 have hb:=hb0
 have hb3:=hb30
 have C:Chg w1 w1 No:=Chg.refl _ _
 refine zz ?_
 refine zCr rfl (B.in_calls f.nm X1 (by decide)) fun w2 hC=> ?_
 rw [decide_eq_false ((show∀a∈([[108,105]]:List (List UInt8)),a∉B.wd X1 by decide+kernel) f.nm hn)]
 have C:=C.no hC
 have hb:=hb0.no C
 have hb3:=hb30.no C
 refine zz ?_
 refine zEq rfl rfl (fun hq=>absurd hq ((show∀a∈([[108,105]]:List (List UInt8)),a≠ [98,114] by decide+kernel) f.nm hn)) (fun _=> ?_)
 refine zz ?_
 refine z_neL (want_L rfl) (by decide) rfl rfl (fun _=> ?_) (fun hq=>absurd hq ((show∀a∈([[108,105]]:List (List UInt8)),a≠ [112] by decide+kernel) f.nm hn))
 refine zP rfl (zP rfl ?_)
 refine zCr rfl (B.has_calls 6 f.nm (by decide) (by decide)) fun w3 hC=> ?_
 rw [decide_eq_false ((show∀a∈([[108,105]]:List (List UInt8)),a∉B.wd (B.setW 6) by decide+kernel) f.nm hn)]
 have C:=C.no hC
 have hb:=hb0.no C
 have hb3:=hb30.no C
 refine zP rfl (zP rfl (zP rfl ?_))
 refine zCr rfl (B.in_calls f.nm X2 (by decide)) fun w4 hC=> ?_
 rw [decide_eq_false ((show∀a∈([[108,105]]:List (List UInt8)),a∉B.wd X2 by decide+kernel) f.nm hn)]
 have C:=C.no hC
 have hb:=hb0.no C
 have hb3:=hb30.no C
 refine zz ?_
 refine zCr rfl (B.in_calls f.nm W4 (by decide)) fun w5 hC=> ?_
 rw [decide_eq_false ((show∀a∈([[108,105]]:List (List UInt8)),a∉B.wd W4 by decide+kernel) f.nm hn)]
 have C:=C.no hC
 have hb:=hb0.no C
 have hb3:=hb30.no C
 refine zz ?_
 refine zCr rfl (B.in_calls f.nm W7 (by decide)) fun w6 hC=> ?_
 rw [decide_eq_false ((show∀a∈([[108,105]]:List (List UInt8)),a∉B.wd W7 by decide+kernel) f.nm hn)]
 have C:=C.no hC
 have hb:=hb0.no C
 have hb3:=hb30.no C
 refine zz ?_
 refine zEq rfl rfl (fun _=> ?_) (fun hq=>absurd ((show∀a∈([[108,105]]:List (List UInt8)),a= [108,105] by decide+kernel) f.nm hn) hq)
 refine zz ?_
 refine zCl rfl (shut_calls (h1.no C) hM (by omega) ((show∀a∈([[108,105]]:List (List UInt8)),a∉fmtN by decide+kernel) f.nm hn) ((show∀a∈([[108,105]]:List (List UInt8)),a∉cellN by decide+kernel) f.nm hn) f.nm (fun _=>rfl) 2 (by decide)) ?_
 rintro _ wz hp
 obtain rfl:=hp.1
 refine ⟨_,rfl,?_⟩
 refine zN (zM ?_)
 exact zk_ret0 (.inl rfl) rfl (BPost.ret (BPost.pre (hN1.chg.no C) hp) (Chg.refl _ _))
theorem ends_p (h:IsB w b t q N (n::m::R) (f::g::fr) sk) (hM:MOk q.M (n::m::R) (f::g::fr)) (hf:fr.length≤700) (hn:f.nm∈([[112]]:List (List UInt8))):
  Calls Tryz.prog 133 [.pointer (some ⟨b,0,none⟩),T.tokV 2 f.nm T.nS []].toArray w (BPost w b t q (g.shut f::fr) sk N.length (.tuple #[])):=by
 unfold T.tokV
 refine zCz 140 Tryz.func133 ?_
 refine zS (zR ?_)
 refine zBx rfl (fun w1 b3 hN1=> ?_)
 have hb30:Blk w1 b3 66 [.int .i64 2,.string (bs f.nm),.slice none 0 0,.bool false,.string (bs [])]:=hN1.blk
 have h1:=h.no hN1.chg
 have hb0:=h1.blk
 have hb:=hb0
 have hb3:=hb30
 have C:Chg w1 w1 No:=Chg.refl _ _
 refine zz ?_
 refine zCr rfl (B.in_calls f.nm X1 (by decide)) fun w2 hC=> ?_
 rw [decide_eq_false ((show∀a∈([[112]]:List (List UInt8)),a∉B.wd X1 by decide+kernel) f.nm hn)]
 have C:=C.no hC
 have hb:=hb0.no C
 have hb3:=hb30.no C
 refine zz ?_
 refine zEq rfl rfl (fun hq=>absurd hq ((show∀a∈([[112]]:List (List UInt8)),a≠ [98,114] by decide+kernel) f.nm hn)) (fun _=> ?_)
 refine zz ?_
 refine z_neL (want_L rfl) (by decide) rfl rfl (fun hq=>absurd ((show∀a∈([[112]]:List (List UInt8)),a= [112] by decide+kernel) f.nm hn) hq) (fun _=> ?_)
 refine zz ?_
 refine zCr rfl (B.in_calls f.nm X2 (by decide)) fun w3 hC=> ?_
 rw [decide_eq_false ((show∀a∈([[112]]:List (List UInt8)),a∉B.wd X2 by decide+kernel) f.nm hn)]
 have C:=C.no hC
 have hb:=hb0.no C
 have hb3:=hb30.no C
 refine zz ?_
 refine zCr rfl (B.in_calls f.nm W4 (by decide)) fun w4 hC=> ?_
 rw [decide_eq_false ((show∀a∈([[112]]:List (List UInt8)),a∉B.wd W4 by decide+kernel) f.nm hn)]
 have C:=C.no hC
 have hb:=hb0.no C
 have hb3:=hb30.no C
 refine zz ?_
 refine zCr rfl (B.in_calls f.nm W7 (by decide)) fun w5 hC=> ?_
 rw [decide_eq_false ((show∀a∈([[112]]:List (List UInt8)),a∉B.wd W7 by decide+kernel) f.nm hn)]
 have C:=C.no hC
 have hb:=hb0.no C
 have hb3:=hb30.no C
 refine zz ?_
 refine zEq rfl rfl (fun hq=>absurd hq ((show∀a∈([[112]]:List (List UInt8)),a≠ [108,105] by decide+kernel) f.nm hn)) (fun _=> ?_)
 refine zz ?_
 refine zCr rfl (B.has_calls 5 f.nm (by decide) (by decide)) fun w6 hC=> ?_
 rw [decide_eq_false ((show∀a∈([[112]]:List (List UInt8)),a∉B.wd (B.setW 5) by decide+kernel) f.nm hn)]
 have C:=C.no hC
 have hb:=hb0.no C
 have hb3:=hb30.no C
 refine zz ?_
 refine zEq rfl rfl (fun _=> ?_) (fun hq=>absurd ((show∀a∈([[112]]:List (List UInt8)),a= [112] by decide+kernel) f.nm hn) hq)
 refine zz ?_
 refine zB1 rfl (fun wa cb hMa=> ?_)
 have hr:RdS wa 9 1 (.slice (some ⟨cb,0,none⟩) 1 1) 1 (T.cellsS [f.nm]):=RdS.new hMa rfl (T.cellsS_one _)
 have C:=C.no hMa.chg
 have hb:=hb0.no C
 have hb3:=hb30.no C
 refine zCl rfl (sHas_calls (h1.no C).st (by simp only [List.length_cons];omega) (l:= [f.nm]) hr (by simp) 3 (by decide)) ?_
 rintro _ wb ⟨⟨y,rfl,hy,_⟩,hC⟩
 refine ⟨_,rfl,?_⟩
 rw [hy (by simp) (by simp)]
 have C:=C.no hC
 have hb:=hb0.no C
 have hb3:=hb30.no C
 refine zz ?_
 refine zCr rfl (sImply_calls (h1.no C).st (by omega) f.nm (fun _=>rfl)) fun wc hC=> ?_
 have C:=C.no hC
 have hb:=hb0.no C
 have hb3:=hb30.no C
 refine zz ?_
 refine zB1 rfl (fun wa cb hMa=> ?_)
 have hr:RdS wa 9 1 (.slice (some ⟨cb,0,none⟩) 1 1) 1 (T.cellsS [f.nm]):=RdS.new hMa rfl (T.cellsS_one _)
 have C:=C.no hMa.chg
 have hb:=hb0.no C
 have hb3:=hb30.no C
 refine zCl rfl (sPopTo_calls (h1.no C).st (by omega) (l:= [f.nm]) hr (by simp) (by simp)) ?_
 rintro _ wz hp
 obtain rfl:=hp.1
 refine ⟨_,rfl,?_⟩
 have hbp:=BPost.pre (hN1.chg.no C) (hp.toB (h1.no C) ((hM.skip (mk1_none ((show∀a∈([[112]]:List (List UInt8)),a∉fmtN by decide+kernel) f.nm hn) ((show∀a∈([[112]]:List (List UInt8)),a∉cellN by decide+kernel) f.nm hn))).rename rfl))
 refine zN (zM ?_)
 exact zk_ret0 (.inl rfl) rfl (hbp.ret (Chg.refl _ _))
theorem ends_head (h:IsB w b t q N (n::m::R) (f::g::fr) sk) (hM:MOk q.M (n::m::R) (f::g::fr)) (hf:fr.length≤700) (hn:f.nm∈([[104,50],[104,51],[104,52],[104,53],[104,54]]:List (List UInt8))):
  Calls Tryz.prog 133 [.pointer (some ⟨b,0,none⟩),T.tokV 2 f.nm T.nS []].toArray w (BPost w b t q (g.shut f::fr) sk N.length (.tuple #[])):=by
 unfold T.tokV
 refine zCz 140 Tryz.func133 ?_
 refine zS (zR ?_)
 refine zBx rfl (fun w1 b3 hN1=> ?_)
 have hb30:Blk w1 b3 66 [.int .i64 2,.string (bs f.nm),.slice none 0 0,.bool false,.string (bs [])]:=hN1.blk
 have h1:=h.no hN1.chg
 have hb0:=h1.blk
 have hb:=hb0
 have hb3:=hb30
 have C:Chg w1 w1 No:=Chg.refl _ _
 refine zz ?_
 refine zCr rfl (B.in_calls f.nm X1 (by decide)) fun w2 hC=> ?_
 rw [decide_eq_false ((show∀a∈([[104,50],[104,51],[104,52],[104,53],[104,54]]:List (List UInt8)),a∉B.wd X1 by decide+kernel) f.nm hn)]
 have C:=C.no hC
 have hb:=hb0.no C
 have hb3:=hb30.no C
 refine zz ?_
 refine zEq rfl rfl (fun hq=>absurd hq ((show∀a∈([[104,50],[104,51],[104,52],[104,53],[104,54]]:List (List UInt8)),a≠ [98,114] by decide+kernel) f.nm hn)) (fun _=> ?_)
 refine zz ?_
 refine z_neL (want_L rfl) (by decide) rfl rfl (fun _=> ?_) (fun hq=>absurd hq ((show∀a∈([[104,50],[104,51],[104,52],[104,53],[104,54]]:List (List UInt8)),a≠ [112] by decide+kernel) f.nm hn))
 refine zP rfl (zP rfl ?_)
 refine zCr rfl (B.has_calls 6 f.nm (by decide) (by decide)) fun w3 hC=> ?_
 rw [decide_eq_false ((show∀a∈([[104,50],[104,51],[104,52],[104,53],[104,54]]:List (List UInt8)),a∉B.wd (B.setW 6) by decide+kernel) f.nm hn)]
 have C:=C.no hC
 have hb:=hb0.no C
 have hb3:=hb30.no C
 refine zP rfl (zP rfl (zP rfl ?_))
 refine zCr rfl (B.in_calls f.nm X2 (by decide)) fun w4 hC=> ?_
 rw [decide_eq_false ((show∀a∈([[104,50],[104,51],[104,52],[104,53],[104,54]]:List (List UInt8)),a∉B.wd X2 by decide+kernel) f.nm hn)]
 have C:=C.no hC
 have hb:=hb0.no C
 have hb3:=hb30.no C
 refine zz ?_
 refine zCr rfl (B.in_calls f.nm W4 (by decide)) fun w5 hC=> ?_
 rw [decide_eq_false ((show∀a∈([[104,50],[104,51],[104,52],[104,53],[104,54]]:List (List UInt8)),a∉B.wd W4 by decide+kernel) f.nm hn)]
 have C:=C.no hC
 have hb:=hb0.no C
 have hb3:=hb30.no C
 refine zz ?_
 refine zCr rfl (B.in_calls f.nm W7 (by decide)) fun w6 hC=> ?_
 rw [decide_eq_false ((show∀a∈([[104,50],[104,51],[104,52],[104,53],[104,54]]:List (List UInt8)),a∉B.wd W7 by decide+kernel) f.nm hn)]
 have C:=C.no hC
 have hb:=hb0.no C
 have hb3:=hb30.no C
 refine zz ?_
 refine zEq rfl rfl (fun hq=>absurd hq ((show∀a∈([[104,50],[104,51],[104,52],[104,53],[104,54]]:List (List UInt8)),a≠ [108,105] by decide+kernel) f.nm hn)) (fun _=> ?_)
 refine zz ?_
 refine zCr rfl (B.has_calls 5 f.nm (by decide) (by decide)) fun w7 hC=> ?_
 rw [decide_eq_true ((show∀a∈([[104,50],[104,51],[104,52],[104,53],[104,54]]:List (List UInt8)),a∈B.wd (B.setW 5) by decide+kernel) f.nm hn)]
 have C:=C.no hC
 have hb:=hb0.no C
 have hb3:=hb30.no C
 refine zz ?_
 refine zc_draw [] (fun w'=>Blk w' b 64 [.pointer (some ⟨t,0,none⟩),.int .i64 0,.string ⟨#[]⟩,.bool sk]) (.take 0 (.take 1 (.take 2 (.take 3 (.all1 4 (.all1 5 (.fin))))))) (by rfl) (by kernel_rfl) (by kernel_rfl) (fun wd hC _=>⟨?_,?_⟩)
 ·exact hb.no hC
 have C:=C.no hC
 have hb:=hb0.no C
 refine zz ?_
 refine zs_call rfl (want_L rfl) rfl (by decide) rfl (B.set_calls 5 (by decide) (by decide)) ?_
 rintro _ wf ⟨⟨A5,c5,rfl,hO⟩,hC⟩
 have C:=C.no hC
 have hb:=hb0.no C
 refine ⟨_,rfl,hb,?_⟩
 refine zs_call rfl (want_L rfl) rfl (by decide) rfl (sHas_calls (h1.no C).st (by simp only [List.length_cons];omega) hO (by decide+kernel) 1 (by decide)) ?_
 rintro _ wb ⟨⟨y,rfl,hy,_⟩,hC⟩
 have C:=C.no hC
 have hb:=hb0.no C
 have hb3:=hb30.no C
 refine ⟨_,rfl,hb,?_⟩
 rw [hy (by simp) ((show∀a∈([[104,50],[104,51],[104,52],[104,53],[104,54]]:List (List UInt8)),a∈B.wd (B.setW 5) by decide+kernel) f.nm hn)]
 refine zz ?_
 refine zCr rfl (sImply_calls (h1.no C).st (by omega) [] (fun hi=>absurd hi ((show∀a∈([[104,50],[104,51],[104,52],[104,53],[104,54]]:List (List UInt8)),a∉B.wd (B.setW 4) by decide+kernel) f.nm hn))) fun wc hC=> ?_
 have C:=C.no hC
 have hb:=hb0.no C
 have hb3:=hb30.no C
 refine zN (zK ?_)
 refine zc_draw [] (fun w'=>Blk w' b 64 [.pointer (some ⟨t,0,none⟩),.int .i64 0,.string ⟨#[]⟩,.bool sk]) (.take 0 (.take 1 (.take 2 (.take 3 (.all1 4 (.all1 5 (.fin))))))) (by rfl) (by kernel_rfl) (by kernel_rfl) (fun wd hC _=>⟨?_,?_⟩)
 ·exact hb.no hC
 have C:=C.no hC
 have hb:=hb0.no C
 refine zz ?_
 refine zs_call rfl (want_L rfl) rfl (by decide) rfl (B.set_calls 5 (by decide) (by decide)) ?_
 rintro _ wf ⟨⟨A5,c5,rfl,hO⟩,hC⟩
 have C:=C.no hC
 have hb:=hb0.no C
 refine ⟨_,rfl,hb,?_⟩
 refine zs_call rfl (want_L rfl) rfl (by decide) rfl (sPopTo_calls (h1.no C).st (by omega) hO (by decide+kernel) ((show∀a∈([[104,50],[104,51],[104,52],[104,53],[104,54]]:List (List UInt8)),a∈B.wd (B.setW 5) by decide+kernel) f.nm hn)) ?_
 rintro _ wz hp
 obtain rfl:=hp.1
 have hbp:=hp.toB (h1.no C) ((hM.skip (mk1_none ((show∀a∈([[104,50],[104,51],[104,52],[104,53],[104,54]]:List (List UInt8)),a∉fmtN by decide+kernel) f.nm hn) ((show∀a∈([[104,50],[104,51],[104,52],[104,53],[104,54]]:List (List UInt8)),a∉cellN by decide+kernel) f.nm hn))).rename rfl)
 refine ⟨_,rfl,?_,?_⟩
 ·obtain ⟨_,_,_,_,hB,_⟩:=hbp
  exact hB.blk
 refine zs_fin ?_
 refine zM ?_
 exact zk_ret0 (.inl rfl) rfl ((BPost.pre (hN1.chg.no C) hbp).ret (Chg.refl _ _))
theorem ends_fmt (h:IsB w b t q N (n::m::R) (f::g::fr) sk) (hM:MOk q.M (n::m::R) (f::g::fr)) (hf:fr.length≤700) (hn:f.nm∈([[97],[99,111,100,101],[101,109],[115,116,114,111,110,103]]:List (List UInt8))):
  Calls Tryz.prog 133 [.pointer (some ⟨b,0,none⟩),T.tokV 2 f.nm T.nS []].toArray w (BPost w b t q (g.shut f::fr) sk N.length (.tuple #[])):=by
 unfold T.tokV
 refine zCz 140 Tryz.func133 ?_
 refine zS (zR ?_)
 refine zBx rfl (fun w1 b3 hN1=> ?_)
 have hb30:Blk w1 b3 66 [.int .i64 2,.string (bs f.nm),.slice none 0 0,.bool false,.string (bs [])]:=hN1.blk
 have h1:=h.no hN1.chg
 have hb0:=h1.blk
 have hb:=hb0
 have hb3:=hb30
 have C:Chg w1 w1 No:=Chg.refl _ _
 refine zz ?_
 refine zCr rfl (B.in_calls f.nm X1 (by decide)) fun w2 hC=> ?_
 rw [decide_eq_false ((show∀a∈([[97],[99,111,100,101],[101,109],[115,116,114,111,110,103]]:List (List UInt8)),a∉B.wd X1 by decide+kernel) f.nm hn)]
 have C:=C.no hC
 have hb:=hb0.no C
 have hb3:=hb30.no C
 refine zz ?_
 refine zEq rfl rfl (fun hq=>absurd hq ((show∀a∈([[97],[99,111,100,101],[101,109],[115,116,114,111,110,103]]:List (List UInt8)),a≠ [98,114] by decide+kernel) f.nm hn)) (fun _=> ?_)
 refine zz ?_
 refine z_neL (want_L rfl) (by decide) rfl rfl (fun _=> ?_) (fun hq=>absurd hq ((show∀a∈([[97],[99,111,100,101],[101,109],[115,116,114,111,110,103]]:List (List UInt8)),a≠ [112] by decide+kernel) f.nm hn))
 refine zP rfl (zP rfl ?_)
 refine zCr rfl (B.has_calls 6 f.nm (by decide) (by decide)) fun w3 hC=> ?_
 rw [decide_eq_false ((show∀a∈([[97],[99,111,100,101],[101,109],[115,116,114,111,110,103]]:List (List UInt8)),a∉B.wd (B.setW 6) by decide+kernel) f.nm hn)]
 have C:=C.no hC
 have hb:=hb0.no C
 have hb3:=hb30.no C
 refine zP rfl (zP rfl (zP rfl ?_))
 refine zCr rfl (B.in_calls f.nm X2 (by decide)) fun w4 hC=> ?_
 rw [decide_eq_false ((show∀a∈([[97],[99,111,100,101],[101,109],[115,116,114,111,110,103]]:List (List UInt8)),a∉B.wd X2 by decide+kernel) f.nm hn)]
 have C:=C.no hC
 have hb:=hb0.no C
 have hb3:=hb30.no C
 refine zz ?_
 refine zCr rfl (B.in_calls f.nm W4 (by decide)) fun w5 hC=> ?_
 rw [decide_eq_false ((show∀a∈([[97],[99,111,100,101],[101,109],[115,116,114,111,110,103]]:List (List UInt8)),a∉B.wd W4 by decide+kernel) f.nm hn)]
 have C:=C.no hC
 have hb:=hb0.no C
 have hb3:=hb30.no C
 refine zz ?_
 refine zCr rfl (B.in_calls f.nm W7 (by decide)) fun w6 hC=> ?_
 rw [decide_eq_false ((show∀a∈([[97],[99,111,100,101],[101,109],[115,116,114,111,110,103]]:List (List UInt8)),a∉B.wd W7 by decide+kernel) f.nm hn)]
 have C:=C.no hC
 have hb:=hb0.no C
 have hb3:=hb30.no C
 refine zz ?_
 refine zEq rfl rfl (fun hq=>absurd hq ((show∀a∈([[97],[99,111,100,101],[101,109],[115,116,114,111,110,103]]:List (List UInt8)),a≠ [108,105] by decide+kernel) f.nm hn)) (fun _=> ?_)
 refine zz ?_
 refine zCr rfl (B.has_calls 5 f.nm (by decide) (by decide)) fun w7 hC=> ?_
 rw [decide_eq_false ((show∀a∈([[97],[99,111,100,101],[101,109],[115,116,114,111,110,103]]:List (List UInt8)),a∉B.wd (B.setW 5) by decide+kernel) f.nm hn)]
 have C:=C.no hC
 have hb:=hb0.no C
 have hb3:=hb30.no C
 refine zz ?_
 refine zEq rfl rfl (fun hq=>absurd hq ((show∀a∈([[97],[99,111,100,101],[101,109],[115,116,114,111,110,103]]:List (List UInt8)),a≠ [112] by decide+kernel) f.nm hn)) (fun _=> ?_)
 refine zz ?_
 refine zEq rfl rfl (fun hq=>absurd hq ((show∀a∈([[97],[99,111,100,101],[101,109],[115,116,114,111,110,103]]:List (List UInt8)),a≠ [116,101,109,112,108,97,116,101] by decide+kernel) f.nm hn)) (fun _=> ?_)
 refine zz ?_
 refine zCr rfl (B.has_calls 2 f.nm (by decide) (by decide)) fun w8 hC=> ?_
 rw [decide_eq_true ((show∀a∈([[97],[99,111,100,101],[101,109],[115,116,114,111,110,103]]:List (List UInt8)),a∈B.wd (B.setW 2) by decide+kernel) f.nm hn)]
 have C:=C.no hC
 have hb:=hb0.no C
 have hb3:=hb30.no C
 obtain ⟨M0,x,hqx,hx,h0⟩:=hM.snoc (y:=(((n:Nat):Int),f.nm)) (by unfold mk1;rw [if_pos ((show∀a∈([[97],[99,111,100,101],[101,109],[115,116,114,111,110,103]]:List (List UInt8)),a∈fmtN by decide+kernel) f.nm hn)])
 have hMl:=h0.len
 simp only [List.length_cons] at hMl
 refine zz ?_
 refine zCl rfl (close_calls (h1.no C).st (by omega) M0 x hqx (congrArg Prod.fst hx) (congrArg Prod.snd hx) (by omega)) ?_
 rintro _ wz hp
 obtain rfl:=hp.1
 refine ⟨_,rfl,?_⟩
 have hbp:=BPost.pre (hN1.chg.no C) (hp.toB (h1.no C) (h0.rename rfl))
 refine zz ?_
 exact zk_ret0 (.inl rfl) rfl (hbp.ret (Chg.refl _ _))
theorem ends_sub (h:IsB w b t q N (n::m::R) (f::g::fr) sk) (hM:MOk q.M (n::m::R) (f::g::fr)) (hf:fr.length≤700) (hn:f.nm∈([[115,117,98],[115,117,112]]:List (List UInt8))):
  Calls Tryz.prog 133 [.pointer (some ⟨b,0,none⟩),T.tokV 2 f.nm T.nS []].toArray w (BPost w b t q (g.shut f::fr) sk N.length (.tuple #[])):=by
 unfold T.tokV
 refine zCz 140 Tryz.func133 ?_
 refine zS (zR ?_)
 refine zBx rfl (fun w1 b3 hN1=> ?_)
 have hb30:Blk w1 b3 66 [.int .i64 2,.string (bs f.nm),.slice none 0 0,.bool false,.string (bs [])]:=hN1.blk
 have h1:=h.no hN1.chg
 have hb0:=h1.blk
 have hb:=hb0
 have hb3:=hb30
 have C:Chg w1 w1 No:=Chg.refl _ _
 refine zz ?_
 refine zCr rfl (B.in_calls f.nm X1 (by decide)) fun w2 hC=> ?_
 rw [decide_eq_false ((show∀a∈([[115,117,98],[115,117,112]]:List (List UInt8)),a∉B.wd X1 by decide+kernel) f.nm hn)]
 have C:=C.no hC
 have hb:=hb0.no C
 have hb3:=hb30.no C
 refine zz ?_
 refine zEq rfl rfl (fun hq=>absurd hq ((show∀a∈([[115,117,98],[115,117,112]]:List (List UInt8)),a≠ [98,114] by decide+kernel) f.nm hn)) (fun _=> ?_)
 refine zz ?_
 refine z_neL (want_L rfl) (by decide) rfl rfl (fun _=> ?_) (fun hq=>absurd hq ((show∀a∈([[115,117,98],[115,117,112]]:List (List UInt8)),a≠ [112] by decide+kernel) f.nm hn))
 refine zP rfl (zP rfl ?_)
 refine zCr rfl (B.has_calls 6 f.nm (by decide) (by decide)) fun w3 hC=> ?_
 rw [decide_eq_false ((show∀a∈([[115,117,98],[115,117,112]]:List (List UInt8)),a∉B.wd (B.setW 6) by decide+kernel) f.nm hn)]
 have C:=C.no hC
 have hb:=hb0.no C
 have hb3:=hb30.no C
 refine zP rfl (zP rfl (zP rfl ?_))
 refine zCr rfl (B.in_calls f.nm X2 (by decide)) fun w4 hC=> ?_
 rw [decide_eq_false ((show∀a∈([[115,117,98],[115,117,112]]:List (List UInt8)),a∉B.wd X2 by decide+kernel) f.nm hn)]
 have C:=C.no hC
 have hb:=hb0.no C
 have hb3:=hb30.no C
 refine zz ?_
 refine zCr rfl (B.in_calls f.nm W4 (by decide)) fun w5 hC=> ?_
 rw [decide_eq_false ((show∀a∈([[115,117,98],[115,117,112]]:List (List UInt8)),a∉B.wd W4 by decide+kernel) f.nm hn)]
 have C:=C.no hC
 have hb:=hb0.no C
 have hb3:=hb30.no C
 refine zz ?_
 refine zCr rfl (B.in_calls f.nm W7 (by decide)) fun w6 hC=> ?_
 rw [decide_eq_false ((show∀a∈([[115,117,98],[115,117,112]]:List (List UInt8)),a∉B.wd W7 by decide+kernel) f.nm hn)]
 have C:=C.no hC
 have hb:=hb0.no C
 have hb3:=hb30.no C
 refine zz ?_
 refine zEq rfl rfl (fun hq=>absurd hq ((show∀a∈([[115,117,98],[115,117,112]]:List (List UInt8)),a≠ [108,105] by decide+kernel) f.nm hn)) (fun _=> ?_)
 refine zz ?_
 refine zCr rfl (B.has_calls 5 f.nm (by decide) (by decide)) fun w7 hC=> ?_
 rw [decide_eq_false ((show∀a∈([[115,117,98],[115,117,112]]:List (List UInt8)),a∉B.wd (B.setW 5) by decide+kernel) f.nm hn)]
 have C:=C.no hC
 have hb:=hb0.no C
 have hb3:=hb30.no C
 refine zz ?_
 refine zEq rfl rfl (fun hq=>absurd hq ((show∀a∈([[115,117,98],[115,117,112]]:List (List UInt8)),a≠ [112] by decide+kernel) f.nm hn)) (fun _=> ?_)
 refine zz ?_
 refine zEq rfl rfl (fun hq=>absurd hq ((show∀a∈([[115,117,98],[115,117,112]]:List (List UInt8)),a≠ [116,101,109,112,108,97,116,101] by decide+kernel) f.nm hn)) (fun _=> ?_)
 refine zz ?_
 refine zCr rfl (B.has_calls 2 f.nm (by decide) (by decide)) fun w8 hC=> ?_
 rw [decide_eq_false ((show∀a∈([[115,117,98],[115,117,112]]:List (List UInt8)),a∉B.wd (B.setW 2) by decide+kernel) f.nm hn)]
 have C:=C.no hC
 have hb:=hb0.no C
 have hb3:=hb30.no C
 refine zz ?_
 refine zCl rfl (any_calls (h1.no C) hM (by omega) ((show∀a∈([[115,117,98],[115,117,112]]:List (List UInt8)),a∉fmtN by decide+kernel) f.nm hn) ((show∀a∈([[115,117,98],[115,117,112]]:List (List UInt8)),a∉cellN by decide+kernel) f.nm hn)) ?_
 rintro _ wz hp
 obtain rfl:=hp.1
 refine ⟨_,rfl,?_⟩
 refine zN (zM ?_)
 exact zk_ret0 (.inl rfl) rfl (BPost.ret (BPost.pre (hN1.chg.no C) hp) (Chg.refl _ _))
end
def Y1:List UInt8:= [116,100,32,116,104]
def Y2:List UInt8:= [99,97,112,116,105,111,110,32,99,111,108,32,99,111,108,103,114,111,117,112,32,116,98,111,100,121,32,116,100,32,116,102,111,111,116,32,116,104,32,116,104,101,97,100,32,116,114]
def Y3:List UInt8:= [116,97,98,108,101,32,116,98,111,100,121,32,116,102,111,111,116,32,116,104,101,97,100,32,116,114]
def Y4:List UInt8:= [98,111,100,121,32,99,97,112,116,105,111,110,32,99,111,108,32,99,111,108,103,114,111,117,112,32,104,116,109,108,32,116,97,98,108,101,32,116,98,111,100,121,32,116,102,111,111,116,32,116,104,101,97,100,32,116,114]
def grN:List (List UInt8):= [[99,97,112,116,105,111,110],[116,97,98,108,101],[116,98,111,100,121],[116,100],[116,101,109,112,108,97,116,101],[116,102,111,111,116],[116,104],[116,104,101,97,100],[116,114]]
def leafN:List (List UInt8):= [[104,114],[98,114],[105,109,103]]
def headN:List (List UInt8):= [[104,50],[104,51],[104,52],[104,53],[104,54]]
def pN:List (List UInt8):= [[104,114],[112],[111,108],[117,108],[98,108,111,99,107,113,117,111,116,101],[116,97,98,108,101],[112,114,101],[104,50],[104,51],[104,52],[104,53],[104,54],[108,105]]
def startN:List (List UInt8):=pN++ [[98,114],[105,109,103],[97],[99,111,100,101],[101,109],[115,116,114,111,110,103],[115,117,98],[115,117,112]]
def endN:List (List UInt8):= [[111,108],[117,108],[98,108,111,99,107,113,117,111,116,101],[112,114,101],[108,105],[112],[104,50],[104,51],[104,52],[104,53],[104,54],[97],[99,111,100,101],[101,109],[115,116,114,111,110,103],[115,117,98],[115,117,112]]
structure CondS (nm:List UInt8) (fr:List FE):Prop where
 nop:nm∈pN→ ∀g∈fr,g.nm≠ [112]
 noh:nm∈headN→ ∀f,fr.head? =some f→f.nm∉B.wd (B.setW 5)
 li:nm= [108,105]→ ∃f g fr',fr=f::g::fr'∧(f.nm= [111,108]∨f.nm= [117,108])
 fmt:nm∈fmtN→nm∉upN fr
def startF (nm:List UInt8) (al:List T.At):List FE→List FE
 | []=> []
 |f::fr=>if nm∈leafN then f.shut ⟨nm,al,.nil⟩::fr else ⟨nm,al,.nil⟩::f::fr
section
variable {w w' w0 w1 w2 : World} {b t : Nat} {q q' q1 : SQ} {N N' : List ND} {n m k : Nat} {R R' : List Nat} {f g : FE} {fr fr' : List FE} {sk sk' : Bool} {x : Value} {e : Ending}
theorem opens_calls (h:IsB w b t q N (n::R) (f::fr) false) (hM:MOk q.M (n::R) (f::fr)) (hf:fr.length≤700) (hl:N.length≤1900000) (nm:List UInt8) (hn:nm∈startN) (al:List T.At) {va:Value} (ha:AttrS w va (encT al)) (hal:al.length≤1000000) (hc:CondS nm (f::fr)):
  Calls Tryz.prog 132 [.pointer (some ⟨b,0,none⟩),T.tokV 1 nm va []].toArray w (BPost w b t q (startF nm al (f::fr)) (decide (nm= [112,114,101])) (N.length+1) (.tuple #[])):=by
 have cls:nm∈([[104,114]]:List (List UInt8))∨nm∈([[98,114],[105,109,103]]:List (List UInt8))∨nm∈([[112],[111,108],[117,108],[98,108,111,99,107,113,117,111,116,101]]:List (List UInt8))∨nm∈([[116,97,98,108,101]]:List (List UInt8))∨nm∈([[112,114,101]]:List (List UInt8))∨nm∈([[104,50],[104,51],[104,52],[104,53],[104,54]]:List (List UInt8))∨nm∈([[108,105]]:List (List UInt8))∨nm∈([[97]]:List (List UInt8))∨nm∈([[99,111,100,101],[101,109],[115,116,114,111,110,103]]:List (List UInt8))∨nm∈([[115,117,98],[115,117,112]]:List (List UInt8)):=by
  revert hn
  have: ∀a∈startN,a∈([[104,114]]:List (List UInt8))∨a∈([[98,114],[105,109,103]]:List (List UInt8))∨a∈([[112],[111,108],[117,108],[98,108,111,99,107,113,117,111,116,101]]:List (List UInt8))∨a∈([[116,97,98,108,101]]:List (List UInt8))∨a∈([[112,114,101]]:List (List UInt8))∨a∈([[104,50],[104,51],[104,52],[104,53],[104,54]]:List (List UInt8))∨a∈([[108,105]]:List (List UInt8))∨a∈([[97]]:List (List UInt8))∨a∈([[99,111,100,101],[101,109],[115,116,114,111,110,103]]:List (List UInt8))∨a∈([[115,117,98],[115,117,112]]:List (List UInt8)):=by decide+kernel
  exact this nm
 have leaf:nm∈leafN→startF nm al (f::fr)=f.shut ⟨nm,al,.nil⟩::fr:=fun hh=>if_pos hh
 have open_:nm∉leafN→startF nm al (f::fr)=⟨nm,al,.nil⟩::f::fr:=fun hh=>if_neg hh
 rcases cls with c|c|c|c|c|c|c|c|c|c
 ·rw [leaf ((show∀a∈([[104,114]]:List (List UInt8)),a∈leafN by decide+kernel) nm c),decide_eq_false ((show∀a∈([[104,114]]:List (List UInt8)),a≠ [112,114,101] by decide+kernel) nm c)]
  exact opens_hr h hM hf hl nm c al ha hal (hc.nop ((show∀a∈([[104,114]]:List (List UInt8)),a∈pN by decide+kernel) nm c))
 ·rw [leaf ((show∀a∈([[98,114],[105,109,103]]:List (List UInt8)),a∈leafN by decide+kernel) nm c),decide_eq_false ((show∀a∈([[98,114],[105,109,103]]:List (List UInt8)),a≠ [112,114,101] by decide+kernel) nm c)]
  exact opens_br h hM hf hl nm c al ha hal
 ·rw [open_ ((show∀a∈([[112],[111,108],[117,108],[98,108,111,99,107,113,117,111,116,101]]:List (List UInt8)),a∉leafN by decide+kernel) nm c),decide_eq_false ((show∀a∈([[112],[111,108],[117,108],[98,108,111,99,107,113,117,111,116,101]]:List (List UInt8)),a≠ [112,114,101] by decide+kernel) nm c)]
  exact opens_block h hM hf hl nm c al ha hal (hc.nop ((show∀a∈([[112],[111,108],[117,108],[98,108,111,99,107,113,117,111,116,101]]:List (List UInt8)),a∈pN by decide+kernel) nm c))
 ·rw [open_ ((show∀a∈([[116,97,98,108,101]]:List (List UInt8)),a∉leafN by decide+kernel) nm c),decide_eq_false ((show∀a∈([[116,97,98,108,101]]:List (List UInt8)),a≠ [112,114,101] by decide+kernel) nm c)]
  exact opens_table h hM hf hl nm c al ha hal (hc.nop ((show∀a∈([[116,97,98,108,101]]:List (List UInt8)),a∈pN by decide+kernel) nm c))
 ·rw [open_ ((show∀a∈([[112,114,101]]:List (List UInt8)),a∉leafN by decide+kernel) nm c),decide_eq_true ((show∀a∈([[112,114,101]]:List (List UInt8)),a= [112,114,101] by decide+kernel) nm c)]
  exact opens_pre h hM hf hl nm c al ha hal (hc.nop ((show∀a∈([[112,114,101]]:List (List UInt8)),a∈pN by decide+kernel) nm c))
 ·rw [open_ ((show∀a∈([[104,50],[104,51],[104,52],[104,53],[104,54]]:List (List UInt8)),a∉leafN by decide+kernel) nm c),decide_eq_false ((show∀a∈([[104,50],[104,51],[104,52],[104,53],[104,54]]:List (List UInt8)),a≠ [112,114,101] by decide+kernel) nm c)]
  exact opens_head h hM hf hl nm c al ha hal (hc.nop ((show∀a∈([[104,50],[104,51],[104,52],[104,53],[104,54]]:List (List UInt8)),a∈pN by decide+kernel) nm c)) (hc.noh ((show∀a∈([[104,50],[104,51],[104,52],[104,53],[104,54]]:List (List UInt8)),a∈headN by decide+kernel) nm c) f rfl)
 ·rw [open_ ((show∀a∈([[108,105]]:List (List UInt8)),a∉leafN by decide+kernel) nm c),decide_eq_false ((show∀a∈([[108,105]]:List (List UInt8)),a≠ [112,114,101] by decide+kernel) nm c)]
  obtain ⟨f',g,fr',he,hs⟩:=hc.li (List.mem_singleton.1 c)
  cases he
  obtain ⟨m,R,rfl⟩: ∃m R',R=m::R':=by
   have:=h.st.len.1
   cases R with
   |nil=>simp at this
   |cons m R=>exact ⟨m,R,rfl⟩
  simp only [List.length_cons] at hf
  exact opens_li h hM (by omega) hl nm c al ha hal hs (hc.nop (by rw [List.mem_singleton.1 c];decide))
 ·rw [open_ ((show∀a∈([[97]]:List (List UInt8)),a∉leafN by decide+kernel) nm c),decide_eq_false ((show∀a∈([[97]]:List (List UInt8)),a≠ [112,114,101] by decide+kernel) nm c)]
  exact opens_a h hM hf hl nm c al ha hal (by have:=(hc.fmt ((show∀a∈([[97]]:List (List UInt8)),a∈fmtN by decide+kernel) nm c));rw [List.mem_singleton.1 c] at this;exact this)
 ·rw [open_ ((show∀a∈([[99,111,100,101],[101,109],[115,116,114,111,110,103]]:List (List UInt8)),a∉leafN by decide+kernel) nm c),decide_eq_false ((show∀a∈([[99,111,100,101],[101,109],[115,116,114,111,110,103]]:List (List UInt8)),a≠ [112,114,101] by decide+kernel) nm c)]
  exact opens_fmt h hM hf hl nm c al ha hal (hc.fmt ((show∀a∈([[99,111,100,101],[101,109],[115,116,114,111,110,103]]:List (List UInt8)),a∈fmtN by decide+kernel) nm c))
 ·rw [open_ ((show∀a∈([[115,117,98],[115,117,112]]:List (List UInt8)),a∉leafN by decide+kernel) nm c),decide_eq_false ((show∀a∈([[115,117,98],[115,117,112]]:List (List UInt8)),a≠ [112,114,101] by decide+kernel) nm c)]
  exact opens_sub h hM hf hl nm c al ha hal
theorem ends_calls (h:IsB w b t q N (n::m::R) (f::g::fr) sk) (hM:MOk q.M (n::m::R) (f::g::fr)) (hf:fr.length≤700) (hn:f.nm∈endN):
  Calls Tryz.prog 133 [.pointer (some ⟨b,0,none⟩),T.tokV 2 f.nm T.nS []].toArray w (BPost w b t q (g.shut f::fr) sk N.length (.tuple #[])):=by
 have cls:f.nm∈([[111,108],[117,108],[98,108,111,99,107,113,117,111,116,101]]:List (List UInt8))∨f.nm∈([[112,114,101]]:List (List UInt8))∨f.nm∈([[108,105]]:List (List UInt8))∨f.nm∈([[112]]:List (List UInt8))∨f.nm∈([[104,50],[104,51],[104,52],[104,53],[104,54]]:List (List UInt8))∨f.nm∈([[97],[99,111,100,101],[101,109],[115,116,114,111,110,103]]:List (List UInt8))∨f.nm∈([[115,117,98],[115,117,112]]:List (List UInt8)):=by
  revert hn
  have: ∀a∈endN,a∈([[111,108],[117,108],[98,108,111,99,107,113,117,111,116,101]]:List (List UInt8))∨a∈([[112,114,101]]:List (List UInt8))∨a∈([[108,105]]:List (List UInt8))∨a∈([[112]]:List (List UInt8))∨a∈([[104,50],[104,51],[104,52],[104,53],[104,54]]:List (List UInt8))∨a∈([[97],[99,111,100,101],[101,109],[115,116,114,111,110,103]]:List (List UInt8))∨a∈([[115,117,98],[115,117,112]]:List (List UInt8)):=by decide+kernel
  exact this _
 rcases cls with c|c|c|c|c|c|c
 ·exact ends_block h hM hf c
 ·exact ends_pre h hM hf c
 ·exact ends_li h hM hf c
 ·exact ends_p h hM hf c
 ·exact ends_head h hM hf c
 ·exact ends_fmt h hM hf c
 ·exact ends_sub h hM hf c
theorem startK_calls {w:World} (k:Int) (nm tx ws:List UInt8) {va:Value} {al:List At} (ha:AttrS w va al) (hw:ws.length≤1000):Calls Tryz.prog 86 [T.tokV k nm va tx,.string (bs ws)].toArray w fun e w'=>e= .returned (.bool (decide (k=1∧nm∈B.wd ws)))∧Chg w w' No:=by
 obtain ⟨A,c,rfl,_⟩:=ha.form
 by_cases hk:k=1
 ·subst hk
  refine (B.start1_calls nm tx ws hw).mono fun e w' hh=> ?_
  have:decide (nm∈B.wd ws)=decide ((1:Int)=1∧nm∈B.wd ws):=by simp
  rw [←this];exact hh
 ·refine (B.start0_calls k nm tx ws hk hw).mono fun e w' hh=> ?_
  rw [decide_eq_false (fun h=>hk h.1)];exact hh
theorem endK_calls {w:World} (k:Int) (nm tx ws:List UInt8) {va:Value} {al:List At} (ha:AttrS w va al) (hw:ws.length≤1000):Calls Tryz.prog 119 [T.tokV k nm va tx,.string (bs ws)].toArray w fun e w'=>e= .returned (.bool (decide (k=2∧nm∈B.wd ws)))∧Chg w w' No:=by
 obtain ⟨A,c,rfl,_⟩:=ha.form
 by_cases hk:k=2
 ·subst hk
  refine (B.end1_calls nm tx ws hw).mono fun e w' hh=> ?_
  have:decide (nm∈B.wd ws)=decide ((2:Int)=2∧nm∈B.wd ws):=by simp
  rw [←this];exact hh
 ·refine (B.end0_calls k nm tx ws hk hw).mono fun e w' hh=> ?_
  rw [decide_eq_false (fun h=>hk h.1)];exact hh
theorem AttrS.nS (w:World):AttrS w T.nS []:=AttrS.nil w
theorem body_start (h:IsB w b t q N (n::R) (f::fr) false) (hM:MOk q.M (n::R) (f::fr)) (hf:fr.length≤700) (hl:N.length≤1900000) (nm:List UInt8) (hn:nm∈startN) (al:List T.At) {va:Value} (ha:AttrS w va (encT al)) (hal:al.length≤1000000) (hc:CondS nm (f::fr)):
  Calls Tryz.prog 96 [.pointer (some ⟨b,0,none⟩),T.tokV 1 nm va []].toArray w (BPost w b t q (startF nm al (f::fr)) (decide (nm= [112,114,101])) (N.length+1) (.tuple #[])):=by
 obtain ⟨A0,c0,rfl,_⟩:=ha.form
 unfold T.tokV
 refine zCz 35 Tryz.func96 ?_
 refine zS (zR ?_)
 refine zBx rfl (fun w1 b3 hN1=> ?_)
 have h1:=h.no hN1.chg
 have hb:=h1.blk
 have hb3:Blk w1 b3 66 [.int .i64 1,.string (bs nm),.slice A0 (encT al).length c0,.bool false,.string (bs [])]:=hN1.blk
 refine zz ?_
 refine zCl rfl (opens_calls h1 hM hf hl nm hn al (ha.no hN1.chg) hal hc) ?_
 rintro _ wz hp
 obtain rfl:=hp.1
 refine ⟨_,rfl,?_⟩
 refine zN (zM ?_)
 exact zk_ret0 (.inl rfl) rfl (BPost.pre hN1.chg hp)
theorem body_end (h:IsB w b t q N (n::m::R) (f::g::fr) sk) (hM:MOk q.M (n::m::R) (f::g::fr)) (hf:fr.length≤700) (hn:f.nm∈endN):
  Calls Tryz.prog 96 [.pointer (some ⟨b,0,none⟩),T.tokV 2 f.nm T.nS []].toArray w (BPost w b t q (g.shut f::fr) sk N.length (.tuple #[])):=by
 unfold T.tokV
 refine zCz 35 Tryz.func96 ?_
 refine zS (zR ?_)
 refine zBx rfl (fun w1 b3 hN1=> ?_)
 have h1:=h.no hN1.chg
 have hb:=h1.blk
 have hb3:Blk w1 b3 66 [.int .i64 2,.string (bs f.nm),.slice none 0 0,.bool false,.string (bs [])]:=hN1.blk
 refine zz ?_
 refine zCl rfl (ends_calls h1 hM hf hn) ?_
 rintro _ wz hp
 obtain rfl:=hp.1
 refine ⟨_,rfl,?_⟩
 refine zN (zM ?_)
 exact zk_ret0 (.inl rfl) rfl (BPost.pre hN1.chg hp)
theorem body_text (h:IsB w b t q N (n::R) (f::fr) sk) (hM:MOk q.M (n::R) (f::fr)) (hf:fr.length≤700) (hl:N.length≤1900000) (v:List UInt8) (hv:v≠ []) (h0:0∉v) (hvl:v.length≤10000000) (hlast: ∀x,f.done.lastH=some x→x.kind≠2):
  Calls Tryz.prog 96 [.pointer (some ⟨b,0,none⟩),T.tokV 3 [] T.nS v].toArray w (BPost w b t q (f.txt v::fr) sk (N.length+1) (.tuple #[])):=by
 unfold T.tokV
 refine zCz 35 Tryz.func96 ?_
 refine zS (zR ?_)
 refine zBx rfl (fun w1 b3 hN1=> ?_)
 have h1:=h.no hN1.chg
 have hb:=h1.blk
 have hb3:Blk w1 b3 66 [.int .i64 3,.string (bs []),.slice none 0 0,.bool false,.string (bs v)]:=hN1.blk
 refine zz ?_
 refine zCp rfl (T.drop0_calls v (show v.length≤1000000000000 by omega) h0) ?_
 refine zz ?_
 refine z_neL (r:= []) (want_L rfl) (by decide) rfl rfl (fun _=> ?_) (fun hq=>absurd hq hv)
 refine zz ?_
 refine zCr rfl (rebuild_calls h1.st (by omega) hM) fun w2 hC2=> ?_
 have h2:=h1.no hC2
 have hb2:=h2.blk
 refine zz ?_
 refine zCl rfl (sType_calls h2.st (by omega) (by omega) v hv hvl hlast) ?_
 rintro _ w3 hp
 obtain rfl:=hp.1
 refine ⟨_,rfl,?_⟩
 have hbp:=BPost.pre (hN1.chg.no hC2) (hp.toB h2 (hM.rename rfl))
 refine zN (zM ?_)
 exact zk_ret0 (.inl rfl) rfl hbp
structure Plain (k:Int) (nm:List UInt8):Prop where
 s2:k=1→nm∉B.wd Y2
 e1:k=2→nm∉B.wd Y1
 e3:k=2→nm∉B.wd Y3
 e4:k=2→nm∉B.wd Y4
theorem cell_of (h:IsB w b t q N R (f::fr) sk) (hf:fr.length≤900) (k:Int) (nm tx:List UInt8) (hp:Plain k nm) {va:Value} {al:List At} (ha:AttrS w va al) {fr2:List FE} {sk2:Bool} {n2:Nat}
  (hbody: ∀w',Chg w w' No→Calls Tryz.prog 96 [.pointer (some ⟨b,0,none⟩),T.tokV k nm va tx].toArray w' (BPost w' b t q fr2 sk2 n2 (.tuple #[]))):
  Calls Tryz.prog 91 [.pointer (some ⟨b,0,none⟩),T.tokV k nm va tx].toArray w (BPost w b t q fr2 sk2 n2 (.tuple #[])):=by
 obtain ⟨A0,c0,rfl,_⟩:=ha.form
 have hst: ∀{w':World} (C:Chg w w' No) (ws:List UInt8),ws.length≤1000→(k=1→nm∉B.wd ws)→Calls Tryz.prog 86 [.agg [.int .i64 k,.string (bs nm),.slice A0 al.length c0,.bool false,.string (bs tx)].toArray,.string (bs ws)].toArray w' fun e w''=>e= .returned (.bool false)∧Chg w' w'' No:=fun C ws h1 h2=>(startK_calls k nm tx ws (ha.no C) h1).mono fun e w'' hh=>by
  rw [decide_eq_false (fun hx:k=1∧nm∈B.wd ws=>h2 hx.1 hx.2)] at hh;exact hh
 have hen: ∀{w':World} (C:Chg w w' No) (ws:List UInt8),ws.length≤1000→(k=2→nm∉B.wd ws)→Calls Tryz.prog 119 [.agg [.int .i64 k,.string (bs nm),.slice A0 al.length c0,.bool false,.string (bs tx)].toArray,.string (bs ws)].toArray w' fun e w''=>e= .returned (.bool false)∧Chg w' w'' No:=fun C ws h1 h2=>(endK_calls k nm tx ws (ha.no C) h1).mono fun e w'' hh=>by
  rw [decide_eq_false (fun hx:k=2∧nm∈B.wd ws=>h2 hx.1 hx.2)] at hh;exact hh
 unfold T.tokV at hbody ⊢
 refine zCz 44 Tryz.func91 ?_
 refine zS (zR ?_)
 refine zBx rfl (fun w1 b3 hN1=> ?_)
 have hb0:=h.blk
 have hb30:Blk w1 b3 66 [.int .i64 k,.string (bs nm),.slice A0 al.length c0,.bool false,.string (bs tx)]:=hN1.blk
 have hb:=hb0.no hN1.chg
 refine zN (zK (zS ?_))
 refine zc_draw [] (fun w'=>Chg w1 w' No∧Blk w' b 64 [.pointer (some ⟨t,0,none⟩),.int .i64 0,.string ⟨#[]⟩,.bool sk]∧Blk w' b3 66 [.int .i64 k,.string (bs nm),.slice A0 al.length c0,.bool false,.string (bs tx)]) (.take 0 (.take 1 (.take 2 (.take 3 (.take 4 (.take 5 (.all1 6 (.all1 7 (.take 8 (.fin)))))))))) (by rfl) (by kernel_rfl) (by kernel_rfl) (fun w2 hC2 _=>⟨?_,?_⟩)
 ·exact ⟨hC2,hb.no hC2,hb30.no hC2⟩
 refine zz ?_
 refine zs_bs1 rfl (want_L rfl) (by decide) rfl (by rfl) (by rfl) (by decide) (by decide) (fun w3 cb hM3=> ?_)
 have C1:=hC2.no hM3.chg
 have hr:RdS w3 9 1 (.slice (some ⟨cb,0,none⟩) 1 1) 1 (T.cellsS [nm]):=RdS.new hM3 rfl (T.cellsS_one _)
 refine ⟨⟨C1,hb.no C1,hb30.no C1⟩,?_⟩
 refine zs_call rfl (want_L rfl) rfl (by decide) rfl (sHas_calls (h.no (hN1.chg.no C1)).st (by omega) (l:= [nm]) hr (by simp) 4 (by decide)) ?_
 rintro _ w4 ⟨⟨y,rfl,_,_⟩,hC4⟩
 have C1:=C1.no hC4
 refine ⟨_,rfl,⟨C1,hb.no C1,hb30.no C1⟩,?_⟩
 have C:=hN1.chg.no C1
 have hb3:=hb30.no C1
 refine zz ?_
 refine zCr rfl (hen C Y1 (by decide) hp.e1) fun w5 hC=> ?_
 have C:=C.no hC
 have C1:=C1.no hC
 have hb3:=hb30.no C1
 refine zz ?_
 refine zCr rfl (hst C Y2 (by decide) hp.s2) fun w6 hC=> ?_
 have C:=C.no hC
 have C1:=C1.no hC
 have hb3:=hb30.no C1
 refine zz ?_
 refine zCr rfl (hen C Y3 (by decide) hp.e3) fun w7 hC=> ?_
 have C:=C.no hC
 have C1:=C1.no hC
 have hb3:=hb30.no C1
 refine zz ?_
 refine zCr rfl (hen C Y4 (by decide) hp.e4) fun w8 hC=> ?_
 have C:=C.no hC
 have C1:=C1.no hC
 have hb3:=hb30.no C1
 refine zz ?_
 refine zCl rfl (hbody _ C) ?_
 rintro _ w9 hpp
 obtain rfl:=hpp.1
 refine ⟨_,rfl,?_⟩
 refine zN (zM ?_)
 exact zk_ret0 (.inl rfl) rfl (BPost.pre C hpp)
theorem html_body (h:IsB w b t q N R (f::fr) sk) (hf:fr.length≤900) (k:Int) (nm tx:List UInt8) {va:Value} {al:List At} (ha:AttrS w va al) {fr2:List FE} {sk2:Bool} {n2:Nat} (hgr:lastN grN (f::fr)= [])
  (hbody: ∀w',Chg w w' No→Calls Tryz.prog 96 [.pointer (some ⟨b,0,none⟩),T.tokV k nm va tx].toArray w' (BPost w' b t q fr2 sk2 n2 (.tuple #[]))):
  Calls Tryz.prog 54 [.pointer (some ⟨b,0,none⟩),T.tokV k nm va tx].toArray w (BPost w b t q fr2 sk2 n2 (.tuple #[])):=by
 obtain ⟨A0,c0,rfl,_⟩:=ha.form
 have hlen:=h.st.len.1
 simp only [List.length_cons] at hlen
 unfold T.tokV at hbody ⊢
 refine zCz 65 Tryz.func54 ?_
 refine zS (zR ?_)
 refine zBx rfl (fun w1 b3 hN1=> ?_)
 have h1:=h.no hN1.chg
 have hb0:=h1.blk
 have hb30:Blk w1 b3 66 [.int .i64 k,.string (bs nm),.slice A0 al.length c0,.bool false,.string (bs tx)]:=hN1.blk
 have hbt0:=h1.st.site.blk
 obtain ⟨bb,o,c,hv,hc,hcc⟩:=RdS.some h1.st.site.row.rd (h1.st.pos (by simp))
 rw [List.length_reverse,hlen] at hv hc
 rw [hv] at hbt0
 refine zz ?_
 refine z_bsE (T.cellsS grN) (want_L rfl) (by decide) rfl (by decide) (by decide) (by kernel_rfl) (fun w2 cb hM2=> ?_)
 have hr:RdS w2 9 1 (.slice (some ⟨cb,0,none⟩) 9 9) grN.length (T.cellsS grN):=RdS.new hM2 rfl (T.cellsS_one _)
 have C:=hM2.chg
 refine zCr rfl ((h1.no C).st.lastI_calls (by simp only [List.length_cons];omega) (by simp) hr (by decide)) fun w3 hC=> ?_
 have C:=C.no hC
 have hb:=hb0.no C
 have hb3:=hb30.no C
 have hbt:=hbt0.no C
 rcases lastF_cases grN (f::fr) with ⟨e1,e2⟩|⟨j,e1,e2,e3,e4,e5⟩
 rotate_left
 ·rw [hgr] at e5
  exact absurd e5 (by decide)
 rw [e1]
 refine zz ?_
 refine zEq (l:= []) rfl rfl (fun hq=>absurd hq (by decide)) (fun _=> ?_)
 refine zz ?_
 refine zEq (l:= []) rfl rfl (fun hq=>absurd hq (by decide)) (fun _=> ?_)
 refine zz ?_
 refine zEq (l:= []) rfl rfl (fun hq=>absurd hq (by decide)) (fun _=> ?_)
 refine zz ?_
 refine zEq (l:= []) rfl rfl (fun hq=>absurd hq (by decide)) (fun _=> ?_)
 refine zz ?_
 refine zEq (l:= []) rfl rfl (fun hq=>absurd hq (by decide)) (fun _=> ?_)
 refine zz ?_
 refine zEq (l:= []) rfl rfl (fun hq=>absurd hq (by decide)) (fun _=> ?_)
 refine zz ?_
 refine zEq (l:= []) rfl rfl (fun hq=>absurd hq (by decide)) (fun _=> ?_)
 refine zz ?_
 refine zEq (l:= []) rfl rfl (fun hq=>absurd hq (by decide)) (fun _=> ?_)
 refine zz ?_
 refine zCl rfl (hbody _ (hN1.chg.no C)) ?_
 rintro _ w9 hpp
 obtain rfl:=hpp.1
 refine ⟨_,rfl,?_⟩
 refine zN (zM ?_)
 exact zk_ret0 (.inl rfl) rfl (BPost.pre (hN1.chg.no C) hpp)
theorem html_td (h:IsB w b t q N R (f::fr) sk) (hf:fr.length≤900) (k:Int) (nm tx:List UInt8) {va:Value} {al:List At} (ha:AttrS w va al) {fr2:List FE} {sk2:Bool} {n2:Nat} (hgr:lastN grN (f::fr)= [116,100])
  (hbody: ∀w',Chg w w' No→Calls Tryz.prog 91 [.pointer (some ⟨b,0,none⟩),T.tokV k nm va tx].toArray w' (BPost w' b t q fr2 sk2 n2 (.tuple #[]))):
  Calls Tryz.prog 54 [.pointer (some ⟨b,0,none⟩),T.tokV k nm va tx].toArray w (BPost w b t q fr2 sk2 n2 (.tuple #[])):=by
 obtain ⟨A0,c0,rfl,_⟩:=ha.form
 have hlen:=h.st.len.1
 simp only [List.length_cons] at hlen
 unfold T.tokV at hbody ⊢
 refine zCz 65 Tryz.func54 ?_
 refine zS (zR ?_)
 refine zBx rfl (fun w1 b3 hN1=> ?_)
 have h1:=h.no hN1.chg
 have hb0:=h1.blk
 have hb30:Blk w1 b3 66 [.int .i64 k,.string (bs nm),.slice A0 al.length c0,.bool false,.string (bs tx)]:=hN1.blk
 have hbt0:=h1.st.site.blk
 obtain ⟨bb,o,c,hv,hc,hcc⟩:=RdS.some h1.st.site.row.rd (h1.st.pos (by simp))
 rw [List.length_reverse,hlen] at hv hc
 rw [hv] at hbt0
 refine zz ?_
 refine z_bsE (T.cellsS grN) (want_L rfl) (by decide) rfl (by decide) (by decide) (by kernel_rfl) (fun w2 cb hM2=> ?_)
 have hr:RdS w2 9 1 (.slice (some ⟨cb,0,none⟩) 9 9) grN.length (T.cellsS grN):=RdS.new hM2 rfl (T.cellsS_one _)
 have C:=hM2.chg
 refine zCr rfl ((h1.no C).st.lastI_calls (by simp only [List.length_cons];omega) (by simp) hr (by decide)) fun w3 hC=> ?_
 have C:=C.no hC
 have hb:=hb0.no C
 have hb3:=hb30.no C
 have hbt:=hbt0.no C
 rcases lastF_cases grN (f::fr) with ⟨e1,e2⟩|⟨j,e1,e2,e3,e4,e5⟩
 ·rw [hgr] at e2
  cases e2
 rw [e1]
 rw [hgr] at e4
 simp only [List.length_cons] at e3
 have hjR:j<R.reverse.length:=by rw [List.length_reverse];omega
 have hcell:=hcc j _ (intC_get _ j hjR)
 obtain ⟨al2,hd⟩:=h.st.rowN.hd j hjR
 have hnl:=h.st.rowN.lt j hjR
 obtain ⟨nj,hnj⟩: ∃nj,nj=R.reverse.getD j 0:=⟨_,rfl⟩
 rw [←hnj] at hcell hd hnl
 rw [e4] at hd
 have hx:nodeOf N (nj:Nat)=N.getD nj n0:=if_pos ⟨by omega,by omega⟩
 have k3:(nodeOf N (nj:Nat)).name=bs [116,100]:=by rw [hx];exact congrArg Hd.name hd
 refine zz ?_
 refine zc_draw [] (fun w'=>Chg w1 w' No∧Blk w' b 64 [.pointer (some ⟨t,0,none⟩),.int .i64 0,.string ⟨#[]⟩,.bool sk]∧Blk w' t 74 [.pointer (some ⟨q.r.pd,0,none⟩),.pointer (some ⟨q.r.pm,0,none⟩),.slice (some ⟨bb,o,none⟩) (fr.length+1) c,.bool false]) (.take 0 (.take 1 (.take 2 (.take 3 (.take 4 (.take 5 (.take 6 (.take 7 (.take 8 (.take 9 (.take 10 (.take 11 (.take 12 (.take 13 (.take 14 (.take 15 (.take 16 (.all1 17 (.take 18 (.take 19 (.fin))))))))))))))))))))) (by rfl) (by kernel_rfl) (by kernel_rfl) (fun w4 hC4 _=>⟨?_,?_⟩)
 ·exact ⟨C.no hC4,hb.no hC4,hbt.no hC4⟩
 have C:=C.no hC4
 refine zz ?_
 refine zRd rfl rfl (fun _ hS=>r_load1 rfl (cell_at (cell_no hS.1 hcell) (by omega))) ?_
 refine zs_call rfl (want_L rfl) rfl (by decide) rfl (rNode_calls (h1.no C).st.site.doc (nj:Nat)) ?_
 rintro _ w5 ⟨va5,rfl,hA5,hC5⟩
 have C:=C.no hC5
 refine ⟨_,rfl,⟨C,hb0.no C,hbt0.no C⟩,?_⟩
 rw [k3]
 have hb3:=hb30.no C
 refine zRd rfl rfl (fun _ hS=>r_field rfl (fld72 _ _ _ _ _ _ _ _)) ?_
 refine zz ?_
 refine zEq (l:= [116,100]) rfl rfl (fun _=> ?_) (fun hq=>absurd rfl hq)
 refine zz ?_
 refine zCl rfl (hbody _ (hN1.chg.no C)) ?_
 rintro _ w9 hpp
 obtain rfl:=hpp.1
 refine ⟨_,rfl,?_⟩
 refine zN (zM ?_)
 exact zk_ret0 (.inl rfl) rfl (BPost.pre (hN1.chg.no C) hpp)
theorem html_th (h:IsB w b t q N R (f::fr) sk) (hf:fr.length≤900) (k:Int) (nm tx:List UInt8) {va:Value} {al:List At} (ha:AttrS w va al) {fr2:List FE} {sk2:Bool} {n2:Nat} (hgr:lastN grN (f::fr)= [116,104])
  (hbody: ∀w',Chg w w' No→Calls Tryz.prog 91 [.pointer (some ⟨b,0,none⟩),T.tokV k nm va tx].toArray w' (BPost w' b t q fr2 sk2 n2 (.tuple #[]))):
  Calls Tryz.prog 54 [.pointer (some ⟨b,0,none⟩),T.tokV k nm va tx].toArray w (BPost w b t q fr2 sk2 n2 (.tuple #[])):=by
 obtain ⟨A0,c0,rfl,_⟩:=ha.form
 have hlen:=h.st.len.1
 simp only [List.length_cons] at hlen
 unfold T.tokV at hbody ⊢
 refine zCz 65 Tryz.func54 ?_
 refine zS (zR ?_)
 refine zBx rfl (fun w1 b3 hN1=> ?_)
 have h1:=h.no hN1.chg
 have hb0:=h1.blk
 have hb30:Blk w1 b3 66 [.int .i64 k,.string (bs nm),.slice A0 al.length c0,.bool false,.string (bs tx)]:=hN1.blk
 have hbt0:=h1.st.site.blk
 obtain ⟨bb,o,c,hv,hc,hcc⟩:=RdS.some h1.st.site.row.rd (h1.st.pos (by simp))
 rw [List.length_reverse,hlen] at hv hc
 rw [hv] at hbt0
 refine zz ?_
 refine z_bsE (T.cellsS grN) (want_L rfl) (by decide) rfl (by decide) (by decide) (by kernel_rfl) (fun w2 cb hM2=> ?_)
 have hr:RdS w2 9 1 (.slice (some ⟨cb,0,none⟩) 9 9) grN.length (T.cellsS grN):=RdS.new hM2 rfl (T.cellsS_one _)
 have C:=hM2.chg
 refine zCr rfl ((h1.no C).st.lastI_calls (by simp only [List.length_cons];omega) (by simp) hr (by decide)) fun w3 hC=> ?_
 have C:=C.no hC
 have hb:=hb0.no C
 have hb3:=hb30.no C
 have hbt:=hbt0.no C
 rcases lastF_cases grN (f::fr) with ⟨e1,e2⟩|⟨j,e1,e2,e3,e4,e5⟩
 ·rw [hgr] at e2
  cases e2
 rw [e1]
 rw [hgr] at e4
 simp only [List.length_cons] at e3
 have hjR:j<R.reverse.length:=by rw [List.length_reverse];omega
 have hcell:=hcc j _ (intC_get _ j hjR)
 obtain ⟨al2,hd⟩:=h.st.rowN.hd j hjR
 have hnl:=h.st.rowN.lt j hjR
 obtain ⟨nj,hnj⟩: ∃nj,nj=R.reverse.getD j 0:=⟨_,rfl⟩
 rw [←hnj] at hcell hd hnl
 rw [e4] at hd
 have hx:nodeOf N (nj:Nat)=N.getD nj n0:=if_pos ⟨by omega,by omega⟩
 have k3:(nodeOf N (nj:Nat)).name=bs [116,104]:=by rw [hx];exact congrArg Hd.name hd
 refine zz ?_
 refine zc_draw [] (fun w'=>Chg w1 w' No∧Blk w' b 64 [.pointer (some ⟨t,0,none⟩),.int .i64 0,.string ⟨#[]⟩,.bool sk]∧Blk w' t 74 [.pointer (some ⟨q.r.pd,0,none⟩),.pointer (some ⟨q.r.pm,0,none⟩),.slice (some ⟨bb,o,none⟩) (fr.length+1) c,.bool false]) (.take 0 (.take 1 (.take 2 (.take 3 (.take 4 (.take 5 (.take 6 (.take 7 (.take 8 (.take 9 (.take 10 (.take 11 (.take 12 (.take 13 (.take 14 (.take 15 (.take 16 (.all1 17 (.take 18 (.take 19 (.fin))))))))))))))))))))) (by rfl) (by kernel_rfl) (by kernel_rfl) (fun w4 hC4 _=>⟨?_,?_⟩)
 ·exact ⟨C.no hC4,hb.no hC4,hbt.no hC4⟩
 have C:=C.no hC4
 refine zz ?_
 refine zRd rfl rfl (fun _ hS=>r_load1 rfl (cell_at (cell_no hS.1 hcell) (by omega))) ?_
 refine zs_call rfl (want_L rfl) rfl (by decide) rfl (rNode_calls (h1.no C).st.site.doc (nj:Nat)) ?_
 rintro _ w5 ⟨va5,rfl,hA5,hC5⟩
 have C:=C.no hC5
 refine ⟨_,rfl,⟨C,hb0.no C,hbt0.no C⟩,?_⟩
 rw [k3]
 have hb3:=hb30.no C
 refine zRd rfl rfl (fun _ hS=>r_field rfl (fld72 _ _ _ _ _ _ _ _)) ?_
 refine zz ?_
 refine zEq (l:= [116,104]) rfl rfl (fun hq=>absurd hq (by decide)) (fun _=> ?_)
 refine zz ?_
 refine zEq (l:= [116,104]) rfl rfl (fun _=> ?_) (fun hq=>absurd rfl hq)
 refine zz ?_
 refine zCl rfl (hbody _ (hN1.chg.no C)) ?_
 rintro _ w9 hpp
 obtain rfl:=hpp.1
 refine ⟨_,rfl,?_⟩
 refine zN (zM ?_)
 exact zk_ret0 (.inl rfl) rfl (BPost.pre (hN1.chg.no C) hpp)
theorem html_table (h:IsB w b t q N R (f::fr) sk) (hf:fr.length≤900) (k:Int) (nm tx:List UInt8) {va:Value} {al:List At} (ha:AttrS w va al) {fr2:List FE} {sk2:Bool} {n2:Nat} (hgr:lastN grN (f::fr)= [116,97,98,108,101])
  (hbody: ∀w',Chg w w' No→Calls Tryz.prog 93 [.pointer (some ⟨b,0,none⟩),T.tokV k nm va tx].toArray w' (BPost w' b t q fr2 sk2 n2 (.tuple #[]))):
  Calls Tryz.prog 54 [.pointer (some ⟨b,0,none⟩),T.tokV k nm va tx].toArray w (BPost w b t q fr2 sk2 n2 (.tuple #[])):=by
 obtain ⟨A0,c0,rfl,_⟩:=ha.form
 have hlen:=h.st.len.1
 simp only [List.length_cons] at hlen
 unfold T.tokV at hbody ⊢
 refine zCz 65 Tryz.func54 ?_
 refine zS (zR ?_)
 refine zBx rfl (fun w1 b3 hN1=> ?_)
 have h1:=h.no hN1.chg
 have hb0:=h1.blk
 have hb30:Blk w1 b3 66 [.int .i64 k,.string (bs nm),.slice A0 al.length c0,.bool false,.string (bs tx)]:=hN1.blk
 have hbt0:=h1.st.site.blk
 obtain ⟨bb,o,c,hv,hc,hcc⟩:=RdS.some h1.st.site.row.rd (h1.st.pos (by simp))
 rw [List.length_reverse,hlen] at hv hc
 rw [hv] at hbt0
 refine zz ?_
 refine z_bsE (T.cellsS grN) (want_L rfl) (by decide) rfl (by decide) (by decide) (by kernel_rfl) (fun w2 cb hM2=> ?_)
 have hr:RdS w2 9 1 (.slice (some ⟨cb,0,none⟩) 9 9) grN.length (T.cellsS grN):=RdS.new hM2 rfl (T.cellsS_one _)
 have C:=hM2.chg
 refine zCr rfl ((h1.no C).st.lastI_calls (by simp only [List.length_cons];omega) (by simp) hr (by decide)) fun w3 hC=> ?_
 have C:=C.no hC
 have hb:=hb0.no C
 have hb3:=hb30.no C
 have hbt:=hbt0.no C
 rcases lastF_cases grN (f::fr) with ⟨e1,e2⟩|⟨j,e1,e2,e3,e4,e5⟩
 ·rw [hgr] at e2
  cases e2
 rw [e1]
 rw [hgr] at e4
 simp only [List.length_cons] at e3
 have hjR:j<R.reverse.length:=by rw [List.length_reverse];omega
 have hcell:=hcc j _ (intC_get _ j hjR)
 obtain ⟨al2,hd⟩:=h.st.rowN.hd j hjR
 have hnl:=h.st.rowN.lt j hjR
 obtain ⟨nj,hnj⟩: ∃nj,nj=R.reverse.getD j 0:=⟨_,rfl⟩
 rw [←hnj] at hcell hd hnl
 rw [e4] at hd
 have hx:nodeOf N (nj:Nat)=N.getD nj n0:=if_pos ⟨by omega,by omega⟩
 have k3:(nodeOf N (nj:Nat)).name=bs [116,97,98,108,101]:=by rw [hx];exact congrArg Hd.name hd
 refine zz ?_
 refine zc_draw [] (fun w'=>Chg w1 w' No∧Blk w' b 64 [.pointer (some ⟨t,0,none⟩),.int .i64 0,.string ⟨#[]⟩,.bool sk]∧Blk w' t 74 [.pointer (some ⟨q.r.pd,0,none⟩),.pointer (some ⟨q.r.pm,0,none⟩),.slice (some ⟨bb,o,none⟩) (fr.length+1) c,.bool false]) (.take 0 (.take 1 (.take 2 (.take 3 (.take 4 (.take 5 (.take 6 (.take 7 (.take 8 (.take 9 (.take 10 (.take 11 (.take 12 (.take 13 (.take 14 (.take 15 (.take 16 (.all1 17 (.take 18 (.take 19 (.fin))))))))))))))))))))) (by rfl) (by kernel_rfl) (by kernel_rfl) (fun w4 hC4 _=>⟨?_,?_⟩)
 ·exact ⟨C.no hC4,hb.no hC4,hbt.no hC4⟩
 have C:=C.no hC4
 refine zz ?_
 refine zRd rfl rfl (fun _ hS=>r_load1 rfl (cell_at (cell_no hS.1 hcell) (by omega))) ?_
 refine zs_call rfl (want_L rfl) rfl (by decide) rfl (rNode_calls (h1.no C).st.site.doc (nj:Nat)) ?_
 rintro _ w5 ⟨va5,rfl,hA5,hC5⟩
 have C:=C.no hC5
 refine ⟨_,rfl,⟨C,hb0.no C,hbt0.no C⟩,?_⟩
 rw [k3]
 have hb3:=hb30.no C
 refine zRd rfl rfl (fun _ hS=>r_field rfl (fld72 _ _ _ _ _ _ _ _)) ?_
 refine zz ?_
 refine zEq (l:= [116,97,98,108,101]) rfl rfl (fun hq=>absurd hq (by decide)) (fun _=> ?_)
 refine zz ?_
 refine zEq (l:= [116,97,98,108,101]) rfl rfl (fun hq=>absurd hq (by decide)) (fun _=> ?_)
 refine zz ?_
 refine zEq (l:= [116,97,98,108,101]) rfl rfl (fun hq=>absurd hq (by decide)) (fun _=> ?_)
 refine zz ?_
 refine zEq (l:= [116,97,98,108,101]) rfl rfl (fun _=> ?_) (fun hq=>absurd rfl hq)
 refine zz ?_
 refine zCl rfl (hbody _ (hN1.chg.no C)) ?_
 rintro _ w9 hpp
 obtain rfl:=hpp.1
 refine ⟨_,rfl,?_⟩
 refine zN (zM ?_)
 exact zk_ret0 (.inl rfl) rfl (BPost.pre (hN1.chg.no C) hpp)
theorem html_tbody (h:IsB w b t q N R (f::fr) sk) (hf:fr.length≤900) (k:Int) (nm tx:List UInt8) {va:Value} {al:List At} (ha:AttrS w va al) {fr2:List FE} {sk2:Bool} {n2:Nat} (hgr:lastN grN (f::fr)= [116,98,111,100,121])
  (hbody: ∀w',Chg w w' No→Calls Tryz.prog 94 [.pointer (some ⟨b,0,none⟩),T.tokV k nm va tx].toArray w' (BPost w' b t q fr2 sk2 n2 (.tuple #[]))):
  Calls Tryz.prog 54 [.pointer (some ⟨b,0,none⟩),T.tokV k nm va tx].toArray w (BPost w b t q fr2 sk2 n2 (.tuple #[])):=by
 obtain ⟨A0,c0,rfl,_⟩:=ha.form
 have hlen:=h.st.len.1
 simp only [List.length_cons] at hlen
 unfold T.tokV at hbody ⊢
 refine zCz 65 Tryz.func54 ?_
 refine zS (zR ?_)
 refine zBx rfl (fun w1 b3 hN1=> ?_)
 have h1:=h.no hN1.chg
 have hb0:=h1.blk
 have hb30:Blk w1 b3 66 [.int .i64 k,.string (bs nm),.slice A0 al.length c0,.bool false,.string (bs tx)]:=hN1.blk
 have hbt0:=h1.st.site.blk
 obtain ⟨bb,o,c,hv,hc,hcc⟩:=RdS.some h1.st.site.row.rd (h1.st.pos (by simp))
 rw [List.length_reverse,hlen] at hv hc
 rw [hv] at hbt0
 refine zz ?_
 refine z_bsE (T.cellsS grN) (want_L rfl) (by decide) rfl (by decide) (by decide) (by kernel_rfl) (fun w2 cb hM2=> ?_)
 have hr:RdS w2 9 1 (.slice (some ⟨cb,0,none⟩) 9 9) grN.length (T.cellsS grN):=RdS.new hM2 rfl (T.cellsS_one _)
 have C:=hM2.chg
 refine zCr rfl ((h1.no C).st.lastI_calls (by simp only [List.length_cons];omega) (by simp) hr (by decide)) fun w3 hC=> ?_
 have C:=C.no hC
 have hb:=hb0.no C
 have hb3:=hb30.no C
 have hbt:=hbt0.no C
 rcases lastF_cases grN (f::fr) with ⟨e1,e2⟩|⟨j,e1,e2,e3,e4,e5⟩
 ·rw [hgr] at e2
  cases e2
 rw [e1]
 rw [hgr] at e4
 simp only [List.length_cons] at e3
 have hjR:j<R.reverse.length:=by rw [List.length_reverse];omega
 have hcell:=hcc j _ (intC_get _ j hjR)
 obtain ⟨al2,hd⟩:=h.st.rowN.hd j hjR
 have hnl:=h.st.rowN.lt j hjR
 obtain ⟨nj,hnj⟩: ∃nj,nj=R.reverse.getD j 0:=⟨_,rfl⟩
 rw [←hnj] at hcell hd hnl
 rw [e4] at hd
 have hx:nodeOf N (nj:Nat)=N.getD nj n0:=if_pos ⟨by omega,by omega⟩
 have k3:(nodeOf N (nj:Nat)).name=bs [116,98,111,100,121]:=by rw [hx];exact congrArg Hd.name hd
 refine zz ?_
 refine zc_draw [] (fun w'=>Chg w1 w' No∧Blk w' b 64 [.pointer (some ⟨t,0,none⟩),.int .i64 0,.string ⟨#[]⟩,.bool sk]∧Blk w' t 74 [.pointer (some ⟨q.r.pd,0,none⟩),.pointer (some ⟨q.r.pm,0,none⟩),.slice (some ⟨bb,o,none⟩) (fr.length+1) c,.bool false]) (.take 0 (.take 1 (.take 2 (.take 3 (.take 4 (.take 5 (.take 6 (.take 7 (.take 8 (.take 9 (.take 10 (.take 11 (.take 12 (.take 13 (.take 14 (.take 15 (.take 16 (.all1 17 (.take 18 (.take 19 (.fin))))))))))))))))))))) (by rfl) (by kernel_rfl) (by kernel_rfl) (fun w4 hC4 _=>⟨?_,?_⟩)
 ·exact ⟨C.no hC4,hb.no hC4,hbt.no hC4⟩
 have C:=C.no hC4
 refine zz ?_
 refine zRd rfl rfl (fun _ hS=>r_load1 rfl (cell_at (cell_no hS.1 hcell) (by omega))) ?_
 refine zs_call rfl (want_L rfl) rfl (by decide) rfl (rNode_calls (h1.no C).st.site.doc (nj:Nat)) ?_
 rintro _ w5 ⟨va5,rfl,hA5,hC5⟩
 have C:=C.no hC5
 refine ⟨_,rfl,⟨C,hb0.no C,hbt0.no C⟩,?_⟩
 rw [k3]
 have hb3:=hb30.no C
 refine zRd rfl rfl (fun _ hS=>r_field rfl (fld72 _ _ _ _ _ _ _ _)) ?_
 refine zz ?_
 refine zEq (l:= [116,98,111,100,121]) rfl rfl (fun hq=>absurd hq (by decide)) (fun _=> ?_)
 refine zz ?_
 refine zEq (l:= [116,98,111,100,121]) rfl rfl (fun hq=>absurd hq (by decide)) (fun _=> ?_)
 refine zz ?_
 refine zEq (l:= [116,98,111,100,121]) rfl rfl (fun hq=>absurd hq (by decide)) (fun _=> ?_)
 refine zz ?_
 refine zEq (l:= [116,98,111,100,121]) rfl rfl (fun hq=>absurd hq (by decide)) (fun _=> ?_)
 refine zz ?_
 refine zEq (l:= [116,98,111,100,121]) rfl rfl (fun _=> ?_) (fun hq=>absurd rfl hq)
 refine zz ?_
 refine zCl rfl (hbody _ (hN1.chg.no C)) ?_
 rintro _ w9 hpp
 obtain rfl:=hpp.1
 refine ⟨_,rfl,?_⟩
 refine zN (zM ?_)
 exact zk_ret0 (.inl rfl) rfl (BPost.pre (hN1.chg.no C) hpp)
theorem html_tr (h:IsB w b t q N R (f::fr) sk) (hf:fr.length≤900) (k:Int) (nm tx:List UInt8) {va:Value} {al:List At} (ha:AttrS w va al) {fr2:List FE} {sk2:Bool} {n2:Nat} (hgr:lastN grN (f::fr)= [116,114])
  (hbody: ∀w',Chg w w' No→Calls Tryz.prog 95 [.pointer (some ⟨b,0,none⟩),T.tokV k nm va tx].toArray w' (BPost w' b t q fr2 sk2 n2 (.tuple #[]))):
  Calls Tryz.prog 54 [.pointer (some ⟨b,0,none⟩),T.tokV k nm va tx].toArray w (BPost w b t q fr2 sk2 n2 (.tuple #[])):=by
 obtain ⟨A0,c0,rfl,_⟩:=ha.form
 have hlen:=h.st.len.1
 simp only [List.length_cons] at hlen
 unfold T.tokV at hbody ⊢
 refine zCz 65 Tryz.func54 ?_
 refine zS (zR ?_)
 refine zBx rfl (fun w1 b3 hN1=> ?_)
 have h1:=h.no hN1.chg
 have hb0:=h1.blk
 have hb30:Blk w1 b3 66 [.int .i64 k,.string (bs nm),.slice A0 al.length c0,.bool false,.string (bs tx)]:=hN1.blk
 have hbt0:=h1.st.site.blk
 obtain ⟨bb,o,c,hv,hc,hcc⟩:=RdS.some h1.st.site.row.rd (h1.st.pos (by simp))
 rw [List.length_reverse,hlen] at hv hc
 rw [hv] at hbt0
 refine zz ?_
 refine z_bsE (T.cellsS grN) (want_L rfl) (by decide) rfl (by decide) (by decide) (by kernel_rfl) (fun w2 cb hM2=> ?_)
 have hr:RdS w2 9 1 (.slice (some ⟨cb,0,none⟩) 9 9) grN.length (T.cellsS grN):=RdS.new hM2 rfl (T.cellsS_one _)
 have C:=hM2.chg
 refine zCr rfl ((h1.no C).st.lastI_calls (by simp only [List.length_cons];omega) (by simp) hr (by decide)) fun w3 hC=> ?_
 have C:=C.no hC
 have hb:=hb0.no C
 have hb3:=hb30.no C
 have hbt:=hbt0.no C
 rcases lastF_cases grN (f::fr) with ⟨e1,e2⟩|⟨j,e1,e2,e3,e4,e5⟩
 ·rw [hgr] at e2
  cases e2
 rw [e1]
 rw [hgr] at e4
 simp only [List.length_cons] at e3
 have hjR:j<R.reverse.length:=by rw [List.length_reverse];omega
 have hcell:=hcc j _ (intC_get _ j hjR)
 obtain ⟨al2,hd⟩:=h.st.rowN.hd j hjR
 have hnl:=h.st.rowN.lt j hjR
 obtain ⟨nj,hnj⟩: ∃nj,nj=R.reverse.getD j 0:=⟨_,rfl⟩
 rw [←hnj] at hcell hd hnl
 rw [e4] at hd
 have hx:nodeOf N (nj:Nat)=N.getD nj n0:=if_pos ⟨by omega,by omega⟩
 have k3:(nodeOf N (nj:Nat)).name=bs [116,114]:=by rw [hx];exact congrArg Hd.name hd
 refine zz ?_
 refine zc_draw [] (fun w'=>Chg w1 w' No∧Blk w' b 64 [.pointer (some ⟨t,0,none⟩),.int .i64 0,.string ⟨#[]⟩,.bool sk]∧Blk w' t 74 [.pointer (some ⟨q.r.pd,0,none⟩),.pointer (some ⟨q.r.pm,0,none⟩),.slice (some ⟨bb,o,none⟩) (fr.length+1) c,.bool false]) (.take 0 (.take 1 (.take 2 (.take 3 (.take 4 (.take 5 (.take 6 (.take 7 (.take 8 (.take 9 (.take 10 (.take 11 (.take 12 (.take 13 (.take 14 (.take 15 (.take 16 (.all1 17 (.take 18 (.take 19 (.fin))))))))))))))))))))) (by rfl) (by kernel_rfl) (by kernel_rfl) (fun w4 hC4 _=>⟨?_,?_⟩)
 ·exact ⟨C.no hC4,hb.no hC4,hbt.no hC4⟩
 have C:=C.no hC4
 refine zz ?_
 refine zRd rfl rfl (fun _ hS=>r_load1 rfl (cell_at (cell_no hS.1 hcell) (by omega))) ?_
 refine zs_call rfl (want_L rfl) rfl (by decide) rfl (rNode_calls (h1.no C).st.site.doc (nj:Nat)) ?_
 rintro _ w5 ⟨va5,rfl,hA5,hC5⟩
 have C:=C.no hC5
 refine ⟨_,rfl,⟨C,hb0.no C,hbt0.no C⟩,?_⟩
 rw [k3]
 have hb3:=hb30.no C
 refine zRd rfl rfl (fun _ hS=>r_field rfl (fld72 _ _ _ _ _ _ _ _)) ?_
 refine zz ?_
 refine zEq (l:= [116,114]) rfl rfl (fun hq=>absurd hq (by decide)) (fun _=> ?_)
 refine zz ?_
 refine zEq (l:= [116,114]) rfl rfl (fun hq=>absurd hq (by decide)) (fun _=> ?_)
 refine zz ?_
 refine zEq (l:= [116,114]) rfl rfl (fun hq=>absurd hq (by decide)) (fun _=> ?_)
 refine zz ?_
 refine zEq (l:= [116,114]) rfl rfl (fun hq=>absurd hq (by decide)) (fun _=> ?_)
 refine zz ?_
 refine zEq (l:= [116,114]) rfl rfl (fun hq=>absurd hq (by decide)) (fun _=> ?_)
 refine zz ?_
 refine zEq (l:= [116,114]) rfl rfl (fun hq=>absurd hq (by decide)) (fun _=> ?_)
 refine zz ?_
 refine zEq (l:= [116,114]) rfl rfl (fun hq=>absurd hq (by decide)) (fun _=> ?_)
 refine zz ?_
 refine zEq (l:= [116,114]) rfl rfl (fun _=> ?_) (fun hq=>absurd rfl hq)
 refine zz ?_
 refine zCl rfl (hbody _ (hN1.chg.no C)) ?_
 rintro _ w9 hpp
 obtain rfl:=hpp.1
 refine ⟨_,rfl,?_⟩
 refine zN (zM ?_)
 exact zk_ret0 (.inl rfl) rfl (BPost.pre (hN1.chg.no C) hpp)
end
end Go.Proofs.YtbcmiijollpgeaaGreat.D
