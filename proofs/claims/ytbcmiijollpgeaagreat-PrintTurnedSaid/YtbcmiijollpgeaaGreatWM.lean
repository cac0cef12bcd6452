import Derived.Test.YtbcmiijollpgeaaGreatWL
set_option maxHeartbeats 32000000
set_option maxRecDepth 100000
set_option linter.unusedVariables false
set_option linter.unusedSimpArgs false
namespace Go.Proofs.YtbcmiijollpgeaaGreat.D
open Go Go.Z Go.Proofs
def V1:List UInt8:= [99,97,112,116,105,111,110]
def V2:List UInt8:= [99,111,108,32,99,111,108,103,114,111,117,112]
def V3:List UInt8:= [116,98,111,100,121,32,116,102,111,111,116,32,116,104,101,97,100]
def V4:List UInt8:= [116,100,32,116,104,32,116,114]
def V5:List UInt8:= [116,97,98,108,101]
def V6:List UInt8:= [116,114]
section
variable {w w' w0 w1 w2 : World} {b t : Nat} {q q' q1 : SQ} {N N' : List ND} {n m k : Nat} {R R' : List Nat} {f g : FE} {fr fr' : List FE} {sk sk' : Bool} {x : Value} {e : Ending}
theorem back_calls (h:IsB w b t q N (n::m::R) (f::g::fr) sk) (hf:fr.length≤900) {v:Value} {l:List (List UInt8)} (hr:RdS w 9 1 v l.length (T.cellsS l)) (hl:l.length≤100000) (hfl:f.nm∈l) (hne:f.nm≠ [116,101,109,112,108,97,116,101]):
  Calls Tryz.prog 127 [.pointer (some ⟨b,0,none⟩),v].toArray w fun e w'=>e= .returned (.tuple #[])∧Chg w w' No:=by
 obtain ⟨A0,c0,rfl,_⟩:=hr.form
 have hf1:(f::g::fr).length≤1000:=by simp only [List.length_cons];omega
 have hb0:=h.blk
 have hb:=hb0
 have hnN:n<N.length:=h.st.zf.lt n (by simp)
 have hpos:0<n:=by have:=h.st.zf.pos 0 (by simp);simpa using this
 have hd:hdOf (N.getD n n0)=elemH f.nm f.al:=h.st.zf.1
 refine zCz 43 Tryz.func127 ?_
 refine zB ?_
 refine zc_loopW (ι:=Nat) (fun k u=> [(0,.pointer (some ⟨b,0,none⟩)),(1,.slice A0 l.length c0)]) (fun k u=>u=w) (fun k u=>0) 0 rfl ⟨rfl,rfl,trivial⟩ ?_
 rintro k u hu
 obtain rfl:=hu.symm
 refine zS (zS ?_)
 refine zc_draw [] (fun w'=>Chg w w' No∧Blk w' b 64 [.pointer (some ⟨t,0,none⟩),.int .i64 0,.string ⟨#[]⟩,.bool sk]) (.take 0 (.take 1 (.take 2 (.take 3 (.all1 4 (.take 5 (.take 6 (.take 7 (.take 8 (.take 9 (.take 10 (.take 11 (.take 12 (.take 13 (.take 14 (.all2 15 (.all1 16 (.all1 17 (.take 18 (.take 19 (.take 20 (.take 21 (.take 22 (.take 23 (.take 24 (.take 25 (.take 26 (.take 27 (.take 28 (.take 30 (.all1 29 (.all1 31 (.take 32 (.take 33 (.fin))))))))))))))))))) 16 (.all1 15 (.all1 17 (.take 18 (.take 19 (.take 20 (.take 21 (.take 22 (.take 23 (.take 24 (.take 25 (.take 26 (.take 27 (.take 28 (.take 30 (.all1 29 (.all1 31 (.take 32 (.take 33 (.fin))))))))))))))))))))))))))))))))))) (by rfl) (by kernel_rfl) (by kernel_rfl) (fun w1 hC1 _=>⟨?_,?_⟩)
 ·exact ⟨hC1,hb.no hC1⟩
 have C:=hC1
 refine zz ?_
 refine zs_call rfl (want_L rfl) rfl (by decide) rfl (sTop_calls (h.no C).st hf1) ?_
 rintro _ w2 ⟨rfl,hC⟩
 have C:=C.no hC
 refine ⟨_,rfl,⟨C,hb0.no C⟩,?_⟩
 refine zz ?_
 refine zs_two ?_ ?_
 ·refine zo_call rfl (want_L rfl) rfl (by decide) rfl (sTop_calls (h.no C).st hf1) ?_
  rintro _ w3 ⟨rfl,hC⟩
  have C:=C.no hC
  refine ⟨_,rfl,⟨C,hb0.no C⟩,?_⟩
  refine zs_bs1 rfl (want_L rfl) (by decide) rfl (by rfl) (by rfl) (by decide) (by decide) (fun w3' cb hM3=> ?_)
  have C:=C.no hM3.chg
  have hr0:RdS w3' 9 1 (.slice (some ⟨cb,0,none⟩) 1 1) 1 (T.cellsS [[116,101,109,112,108,97,116,101]]):=RdS.new hM3 rfl (T.cellsS_one _)
  refine ⟨⟨C,hb0.no C⟩,?_⟩
  refine zs_call rfl (want_L rfl) rfl (by decide) rfl (rsIs2_calls (h.no C).st.site (l:= [[116,101,109,112,108,97,116,101]]) hr0 (by decide) n hnN f.nm f.al hd) ?_
  rintro _ w4 ⟨rfl,hC⟩
  have C:=C.no hC
  refine ⟨_,rfl,⟨C,hb0.no C⟩,?_⟩
  rw [decide_eq_false (fun hh:n≠0∧f.nm∈ [[116,101,109,112,108,97,116,101]]=>hne (by simpa using hh.2))]
  refine zz ?_
  refine zs_call rfl (want_L rfl) rfl (by decide) rfl (sTop_calls (h.no C).st hf1) ?_
  rintro _ w5 ⟨rfl,hC⟩
  have C:=C.no hC
  refine ⟨_,rfl,⟨C,hb0.no C⟩,?_⟩
  refine zs_call rfl (want_L rfl) rfl (by decide) rfl (rsIs2_calls (h.no C).st.site (hr.no C) hl n hnN f.nm f.al hd) ?_
  rintro _ w6 ⟨rfl,hC⟩
  have C:=C.no hC
  refine ⟨_,rfl,⟨C,hb0.no C⟩,?_⟩
  rw [decide_eq_true (⟨by omega,hfl⟩:n≠0∧f.nm∈l)]
  refine zz ?_
  exact zk_ret0 (.inl rfl) rfl ⟨rfl,C⟩
 ·refine zo_bs1 rfl (want_L rfl) (by decide) rfl (by rfl) (by rfl) (by decide) (by decide) (fun w3 cb hM3=> ?_)
  have C:=C.no hM3.chg
  have hr0:RdS w3 9 1 (.slice (some ⟨cb,0,none⟩) 1 1) 1 (T.cellsS [[116,101,109,112,108,97,116,101]]):=RdS.new hM3 rfl (T.cellsS_one _)
  refine ⟨⟨C,hb0.no C⟩,?_⟩
  refine zs_call rfl (want_L rfl) rfl (by decide) rfl (sTop_calls (h.no C).st hf1) ?_
  rintro _ w3' ⟨rfl,hC⟩
  have C:=C.no hC
  have hr0:=hr0.no hC
  refine ⟨_,rfl,⟨C,hb0.no C⟩,?_⟩
  refine zs_call rfl (want_L rfl) rfl (by decide) rfl (rsIs2_calls (h.no C).st.site (l:= [[116,101,109,112,108,97,116,101]]) hr0 (by decide) n hnN f.nm f.al hd) ?_
  rintro _ w4 ⟨rfl,hC⟩
  have C:=C.no hC
  refine ⟨_,rfl,⟨C,hb0.no C⟩,?_⟩
  rw [decide_eq_false (fun hh:n≠0∧f.nm∈ [[116,101,109,112,108,97,116,101]]=>hne (by simpa using hh.2))]
  refine zz ?_
  refine zs_call rfl (want_L rfl) rfl (by decide) rfl (sTop_calls (h.no C).st hf1) ?_
  rintro _ w5 ⟨rfl,hC⟩
  have C:=C.no hC
  refine ⟨_,rfl,⟨C,hb0.no C⟩,?_⟩
  refine zs_call rfl (want_L rfl) rfl (by decide) rfl (rsIs2_calls (h.no C).st.site (hr.no C) hl n hnN f.nm f.al hd) ?_
  rintro _ w6 ⟨rfl,hC⟩
  have C:=C.no hC
  refine ⟨_,rfl,⟨C,hb0.no C⟩,?_⟩
  rw [decide_eq_true (⟨by omega,hfl⟩:n≠0∧f.nm∈l)]
  refine zz ?_
  exact zk_ret0 (.inl rfl) rfl ⟨rfl,C⟩
theorem table_start (h:IsB w b t q N (n::m::R) (f::g::fr) sk) (hM:MOk q.M (n::m::R) (f::g::fr)) (hf:fr.length≤700) (hl:N.length≤1900000) (hfn:f.nm= [116,97,98,108,101]) (al:List T.At) {va:Value} (ha:AttrS w va (encT al)) (hal:al.length≤1000000):
  Calls Tryz.prog 93 [.pointer (some ⟨b,0,none⟩),T.tokV 1 [116,98,111,100,121] va []].toArray w (BPost w b t q (⟨[116,98,111,100,121],al,.nil⟩::f::g::fr) sk (N.length+1) (.tuple #[])):=by
 obtain ⟨A0,c0,rfl,_⟩:=ha.form
 have AV:=ha
 unfold T.tokV
 refine zCz 139 Tryz.func93 ?_
 refine zS (zR ?_)
 refine zBx rfl (fun w1 b3 hN1=> ?_)
 have hb30:Blk w1 b3 66 [.int .i64 1,.string (bs [116,98,111,100,121]),.slice A0 (encT al).length c0,.bool false,.string (bs [])]:=hN1.blk
 have h1:=h.no hN1.chg
 have AV:=AV.no hN1.chg
 have hb0:=h1.blk
 have hb:=hb0
 have hb3:=hb30
 have C:Chg w1 w1 No:=Chg.refl _ _
 refine zz ?_
 refine zc_draw [] (fun w'=>Chg w1 w' No∧Blk w' b 64 [.pointer (some ⟨t,0,none⟩),.int .i64 0,.string ⟨#[]⟩,.bool sk]∧Blk w' b3 66 [.int .i64 1,.string (bs [116,98,111,100,121]),.slice A0 (encT al).length c0,.bool false,.string (bs [])]) (.take 0 (.take 1 (.take 2 (.take 3 (.take 4 (.take 5 (.take 6 (.take 7 (.take 8 (.take 9 (.take 10 (.take 11 (.all2 12 (.all1 13 (.all1 14 (.take 15 (.take 16 (.take 17 (.take 18 (.all1 19 (.all1 20 (.take 21 (.take 22 (.fin))))))))))) 13 (.all1 12 (.all1 14 (.take 15 (.take 16 (.take 17 (.take 18 (.all1 19 (.all1 20 (.take 21 (.take 22 (.fin)))))))))))))))))))))))) (by rfl) (by kernel_rfl) (by kernel_rfl) (fun wd hC _=>⟨?_,?_⟩)
 ·exact ⟨hC,hb.no hC,hb3.no hC⟩
 have C:=hC
 have hb:=hb0.no C
 have hb3:=hb30.no C
 refine zz ?_
 refine zs_two ?_ ?_
 ·refine zo_skipL rfl rfl ?_
  refine zz ?_
  refine zCr rfl (startK_calls 1 [116,98,111,100,121] [] V1 (AV.no C) (by decide)) fun wx hC=> ?_
  rw [decide_eq_false (fun hx:(1:Int)=1∧ [116,98,111,100,121]∈B.wd V1=>absurd hx.2 (by decide+kernel))]
  have C:=C.no hC
  have hb:=hb0.no C
  have hb3:=hb30.no C
  refine zz ?_
  refine zCr rfl (startK_calls 1 [116,98,111,100,121] [] V2 (AV.no C) (by decide)) fun wx hC=> ?_
  rw [decide_eq_false (fun hx:(1:Int)=1∧ [116,98,111,100,121]∈B.wd V2=>absurd hx.2 (by decide+kernel))]
  have C:=C.no hC
  have hb:=hb0.no C
  have hb3:=hb30.no C
  refine zz ?_
  refine zCr rfl (startK_calls 1 [116,98,111,100,121] [] V3 (AV.no C) (by decide)) fun wx hC=> ?_
  rw [decide_eq_true (⟨rfl,(by decide+kernel)⟩:(1:Int)=1∧ [116,98,111,100,121]∈B.wd V3)]
  have C:=C.no hC
  have hb:=hb0.no C
  have hb3:=hb30.no C
  refine zz ?_
  refine zB1 rfl (fun wx cb hMx=> ?_)
  have hr:RdS wx 9 1 (.slice (some ⟨cb,0,none⟩) 1 1) 1 (T.cellsS [[116,97,98,108,101]]):=RdS.new hMx rfl (T.cellsS_one _)
  have hC:=hMx.chg
  have C:=C.no hC
  have hb:=hb0.no C
  have hb3:=hb30.no C
  refine zCr rfl (back_calls (h1.no C) (by omega) (l:= [[116,97,98,108,101]]) hr (by decide) (by rw [hfn];decide) (by rw [hfn];decide)) fun wy hC=> ?_
  have C:=C.no hC
  have hb:=hb0.no C
  have hb3:=hb30.no C
  refine zz ?_
  refine zCl rfl (enter_calls (h1.no C) (by simp only [List.length_cons];omega) hl [116,98,111,100,121] al (AV.no C) hal) ?_
  rintro _ wz hp
  obtain rfl:=hp.1
  refine ⟨_,rfl,?_⟩
  refine zN (zM ?_)
  exact zk_ret0 (.inl rfl) rfl (BPost.pre (hN1.chg.no C) (hp.toB (h1.no C) (hM.open_ (f:=⟨[116,98,111,100,121],al,.nil⟩) (show [116,98,111,100,121]∉fmtN by decide) (show [116,98,111,100,121]∉cellN by decide))))
 ·refine zo_skipL rfl rfl ?_
  refine zz ?_
  refine zCr rfl (startK_calls 1 [116,98,111,100,121] [] V1 (AV.no C) (by decide)) fun wx hC=> ?_
  rw [decide_eq_false (fun hx:(1:Int)=1∧ [116,98,111,100,121]∈B.wd V1=>absurd hx.2 (by decide+kernel))]
  have C:=C.no hC
  have hb:=hb0.no C
  have hb3:=hb30.no C
  refine zz ?_
  refine zCr rfl (startK_calls 1 [116,98,111,100,121] [] V2 (AV.no C) (by decide)) fun wx hC=> ?_
  rw [decide_eq_false (fun hx:(1:Int)=1∧ [116,98,111,100,121]∈B.wd V2=>absurd hx.2 (by decide+kernel))]
  have C:=C.no hC
  have hb:=hb0.no C
  have hb3:=hb30.no C
  refine zz ?_
  refine zCr rfl (startK_calls 1 [116,98,111,100,121] [] V3 (AV.no C) (by decide)) fun wx hC=> ?_
  rw [decide_eq_true (⟨rfl,(by decide+kernel)⟩:(1:Int)=1∧ [116,98,111,100,121]∈B.wd V3)]
  have C:=C.no hC
  have hb:=hb0.no C
  have hb3:=hb30.no C
  refine zz ?_
  refine zB1 rfl (fun wx cb hMx=> ?_)
  have hr:RdS wx 9 1 (.slice (some ⟨cb,0,none⟩) 1 1) 1 (T.cellsS [[116,97,98,108,101]]):=RdS.new hMx rfl (T.cellsS_one _)
  have hC:=hMx.chg
  have C:=C.no hC
  have hb:=hb0.no C
  have hb3:=hb30.no C
  refine zCr rfl (back_calls (h1.no C) (by omega) (l:= [[116,97,98,108,101]]) hr (by decide) (by rw [hfn];decide) (by rw [hfn];decide)) fun wy hC=> ?_
  have C:=C.no hC
  have hb:=hb0.no C
  have hb3:=hb30.no C
  refine zz ?_
  refine zCl rfl (enter_calls (h1.no C) (by simp only [List.length_cons];omega) hl [116,98,111,100,121] al (AV.no C) hal) ?_
  rintro _ wz hp
  obtain rfl:=hp.1
  refine ⟨_,rfl,?_⟩
  refine zN (zM ?_)
  exact zk_ret0 (.inl rfl) rfl (BPost.pre (hN1.chg.no C) (hp.toB (h1.no C) (hM.open_ (f:=⟨[116,98,111,100,121],al,.nil⟩) (show [116,98,111,100,121]∉fmtN by decide) (show [116,98,111,100,121]∉cellN by decide))))
theorem table_end (h:IsB w b t q N (n::m::R) (f::g::fr) sk) (hM:MOk q.M (n::m::R) (f::g::fr)) (hf:fr.length≤700) (hfn:f.nm= [116,97,98,108,101]):
  Calls Tryz.prog 93 [.pointer (some ⟨b,0,none⟩),T.tokV 2 [116,97,98,108,101] T.nS []].toArray w (BPost w b t q (g.shut f::fr) sk N.length (.tuple #[])):=by
 have AV:=AttrS.nS w
 unfold T.tokV
 refine zCz 139 Tryz.func93 ?_
 refine zS (zR ?_)
 refine zBx rfl (fun w1 b3 hN1=> ?_)
 have hb30:Blk w1 b3 66 [.int .i64 2,.string (bs [116,97,98,108,101]),.slice none 0 0,.bool false,.string (bs [])]:=hN1.blk
 have h1:=h.no hN1.chg
 have AV:=AV.no hN1.chg
 have hb0:=h1.blk
 have hb:=hb0
 have hb3:=hb30
 have C:Chg w1 w1 No:=Chg.refl _ _
 refine zz ?_
 refine zc_draw [] (fun w'=>Chg w1 w' No∧Blk w' b 64 [.pointer (some ⟨t,0,none⟩),.int .i64 0,.string ⟨#[]⟩,.bool sk]∧Blk w' b3 66 [.int .i64 2,.string (bs [116,97,98,108,101]),.slice none 0 0,.bool false,.string (bs [])]) (.take 0 (.take 1 (.take 2 (.take 3 (.take 4 (.take 5 (.take 6 (.take 7 (.take 8 (.take 9 (.take 10 (.take 11 (.all2 12 (.all1 13 (.all1 14 (.take 15 (.take 16 (.take 17 (.take 18 (.all1 19 (.all1 20 (.take 21 (.take 22 (.fin))))))))))) 13 (.all1 12 (.all1 14 (.take 15 (.take 16 (.take 17 (.take 18 (.all1 19 (.all1 20 (.take 21 (.take 22 (.fin)))))))))))))))))))))))) (by rfl) (by kernel_rfl) (by kernel_rfl) (fun wd hC _=>⟨?_,?_⟩)
 ·exact ⟨hC,hb.no hC,hb3.no hC⟩
 have C:=hC
 have hb:=hb0.no C
 have hb3:=hb30.no C
 refine zz ?_
 refine zs_two ?_ ?_
 ·refine zo_skipL rfl rfl ?_
  refine zz ?_
  refine zCr rfl (startK_calls 2 [116,97,98,108,101] [] V1 (AV.no C) (by decide)) fun wx hC=> ?_
  rw [decide_eq_false (fun hx:(2:Int)=1∧ [116,97,98,108,101]∈B.wd V1=>absurd hx.1 (by decide))]
  have C:=C.no hC
  have hb:=hb0.no C
  have hb3:=hb30.no C
  refine zz ?_
  refine zCr rfl (startK_calls 2 [116,97,98,108,101] [] V2 (AV.no C) (by decide)) fun wx hC=> ?_
  rw [decide_eq_false (fun hx:(2:Int)=1∧ [116,97,98,108,101]∈B.wd V2=>absurd hx.1 (by decide))]
  have C:=C.no hC
  have hb:=hb0.no C
  have hb3:=hb30.no C
  refine zz ?_
  refine zCr rfl (startK_calls 2 [116,97,98,108,101] [] V3 (AV.no C) (by decide)) fun wx hC=> ?_
  rw [decide_eq_false (fun hx:(2:Int)=1∧ [116,97,98,108,101]∈B.wd V3=>absurd hx.1 (by decide))]
  have C:=C.no hC
  have hb:=hb0.no C
  have hb3:=hb30.no C
  refine zz ?_
  refine zCr rfl (startK_calls 2 [116,97,98,108,101] [] V4 (AV.no C) (by decide)) fun wx hC=> ?_
  rw [decide_eq_false (fun hx:(2:Int)=1∧ [116,97,98,108,101]∈B.wd V4=>absurd hx.1 (by decide))]
  have C:=C.no hC
  have hb:=hb0.no C
  have hb3:=hb30.no C
  refine zz ?_
  refine zCr rfl (startK_calls 2 [116,97,98,108,101] [] V5 (AV.no C) (by decide)) fun wx hC=> ?_
  rw [decide_eq_false (fun hx:(2:Int)=1∧ [116,97,98,108,101]∈B.wd V5=>absurd hx.1 (by decide))]
  have C:=C.no hC
  have hb:=hb0.no C
  have hb3:=hb30.no C
  refine zz ?_
  refine zCr rfl (endK_calls 2 [116,97,98,108,101] [] V5 (AV.no C) (by decide)) fun wx hC=> ?_
  rw [decide_eq_true (⟨rfl,(by decide+kernel)⟩:(2:Int)=2∧ [116,97,98,108,101]∈B.wd V5)]
  have C:=C.no hC
  have hb:=hb0.no C
  have hb3:=hb30.no C
  refine zz ?_
  refine zB1 rfl (fun wx cb hMx=> ?_)
  have hr:RdS wx 9 1 (.slice (some ⟨cb,0,none⟩) 1 1) 1 (T.cellsS [[116,97,98,108,101]]):=RdS.new hMx rfl (T.cellsS_one _)
  have hC:=hMx.chg
  have C:=C.no hC
  have hb:=hb0.no C
  have hb3:=hb30.no C
  refine zCl rfl (sHas_calls (h1.no C).st (by simp only [List.length_cons];omega) (l:= [[116,97,98,108,101]]) hr (by simp) 4 (by decide)) ?_
  rintro _ wy ⟨⟨y,rfl,hy,_⟩,hC⟩
  refine ⟨_,rfl,?_⟩
  rw [hy (by simp) (by rw [hfn];decide)]
  have C:=C.no hC
  have hb:=hb0.no C
  have hb3:=hb30.no C
  refine zz ?_
  refine zB1 rfl (fun wx cb hMx=> ?_)
  have hr:RdS wx 9 1 (.slice (some ⟨cb,0,none⟩) 1 1) 1 (T.cellsS [[116,97,98,108,101]]):=RdS.new hMx rfl (T.cellsS_one _)
  have hC:=hMx.chg
  have C:=C.no hC
  have hb:=hb0.no C
  have hb3:=hb30.no C
  refine zCl rfl (sPopTo_calls (h1.no C).st (by omega) (l:= [[116,97,98,108,101]]) hr (by simp) (by rw [hfn];decide)) ?_
  rintro _ wz hp
  obtain rfl:=hp.1
  refine ⟨_,rfl,?_⟩
  have hbp:=BPost.pre (hN1.chg.no C) (hp.toB (h1.no C) ((hM.skip (mk1_none (by rw [hfn];decide) (by rw [hfn];decide))).rename rfl))
  refine zN (zM ?_)
  exact zk_ret0 (.inl rfl) rfl (hbp.ret (Chg.refl _ _))
 ·refine zo_skipL rfl rfl ?_
  refine zz ?_
  refine zCr rfl (startK_calls 2 [116,97,98,108,101] [] V1 (AV.no C) (by decide)) fun wx hC=> ?_
  rw [decide_eq_false (fun hx:(2:Int)=1∧ [116,97,98,108,101]∈B.wd V1=>absurd hx.1 (by decide))]
  have C:=C.no hC
  have hb:=hb0.no C
  have hb3:=hb30.no C
  refine zz ?_
  refine zCr rfl (startK_calls 2 [116,97,98,108,101] [] V2 (AV.no C) (by decide)) fun wx hC=> ?_
  rw [decide_eq_false (fun hx:(2:Int)=1∧ [116,97,98,108,101]∈B.wd V2=>absurd hx.1 (by decide))]
  have C:=C.no hC
  have hb:=hb0.no C
  have hb3:=hb30.no C
  refine zz ?_
  refine zCr rfl (startK_calls 2 [116,97,98,108,101] [] V3 (AV.no C) (by decide)) fun wx hC=> ?_
  rw [decide_eq_false (fun hx:(2:Int)=1∧ [116,97,98,108,101]∈B.wd V3=>absurd hx.1 (by decide))]
  have C:=C.no hC
  have hb:=hb0.no C
  have hb3:=hb30.no C
  refine zz ?_
  refine zCr rfl (startK_calls 2 [116,97,98,108,101] [] V4 (AV.no C) (by decide)) fun wx hC=> ?_
  rw [decide_eq_false (fun hx:(2:Int)=1∧ [116,97,98,108,101]∈B.wd V4=>absurd hx.1 (by decide))]
  have C:=C.no hC
  have hb:=hb0.no C
  have hb3:=hb30.no C
  refine zz ?_
  refine zCr rfl (startK_calls 2 [116,97,98,108,101] [] V5 (AV.no C) (by decide)) fun wx hC=> ?_
  rw [decide_eq_false (fun hx:(2:Int)=1∧ [116,97,98,108,101]∈B.wd V5=>absurd hx.1 (by decide))]
  have C:=C.no hC
  have hb:=hb0.no C
  have hb3:=hb30.no C
  refine zz ?_
  refine zCr rfl (endK_calls 2 [116,97,98,108,101] [] V5 (AV.no C) (by decide)) fun wx hC=> ?_
  rw [decide_eq_true (⟨rfl,(by decide+kernel)⟩:(2:Int)=2∧ [116,97,98,108,101]∈B.wd V5)]
  have C:=C.no hC
  have hb:=hb0.no C
  have hb3:=hb30.no C
  refine zz ?_
  refine zB1 rfl (fun wx cb hMx=> ?_)
  have hr:RdS wx 9 1 (.slice (some ⟨cb,0,none⟩) 1 1) 1 (T.cellsS [[116,97,98,108,101]]):=RdS.new hMx rfl (T.cellsS_one _)
  have hC:=hMx.chg
  have C:=C.no hC
  have hb:=hb0.no C
  have hb3:=hb30.no C
  refine zCl rfl (sHas_calls (h1.no C).st (by simp only [List.length_cons];omega) (l:= [[116,97,98,108,101]]) hr (by simp) 4 (by decide)) ?_
  rintro _ wy ⟨⟨y,rfl,hy,_⟩,hC⟩
  refine ⟨_,rfl,?_⟩
  rw [hy (by simp) (by rw [hfn];decide)]
  have C:=C.no hC
  have hb:=hb0.no C
  have hb3:=hb30.no C
  refine zz ?_
  refine zB1 rfl (fun wx cb hMx=> ?_)
  have hr:RdS wx 9 1 (.slice (some ⟨cb,0,none⟩) 1 1) 1 (T.cellsS [[116,97,98,108,101]]):=RdS.new hMx rfl (T.cellsS_one _)
  have hC:=hMx.chg
  have C:=C.no hC
  have hb:=hb0.no C
  have hb3:=hb30.no C
  refine zCl rfl (sPopTo_calls (h1.no C).st (by omega) (l:= [[116,97,98,108,101]]) hr (by simp) (by rw [hfn];decide)) ?_
  rintro _ wz hp
  obtain rfl:=hp.1
  refine ⟨_,rfl,?_⟩
  have hbp:=BPost.pre (hN1.chg.no C) (hp.toB (h1.no C) ((hM.skip (mk1_none (by rw [hfn];decide) (by rw [hfn];decide))).rename rfl))
  refine zN (zM ?_)
  exact zk_ret0 (.inl rfl) rfl (hbp.ret (Chg.refl _ _))
theorem rows_start (h:IsB w b t q N (n::m::R) (f::g::fr) sk) (hM:MOk q.M (n::m::R) (f::g::fr)) (hf:fr.length≤700) (hl:N.length≤1900000) (hfn:f.nm= [116,98,111,100,121]) (al:List T.At) {va:Value} (ha:AttrS w va (encT al)) (hal:al.length≤1000000):
  Calls Tryz.prog 94 [.pointer (some ⟨b,0,none⟩),T.tokV 1 [116,114] va []].toArray w (BPost w b t q (⟨[116,114],al,.nil⟩::f::g::fr) sk (N.length+1) (.tuple #[])):=by
 obtain ⟨A0,c0,rfl,_⟩:=ha.form
 have AV:=ha
 unfold T.tokV
 refine zCz 70 Tryz.func94 ?_
 refine zS (zR ?_)
 refine zBx rfl (fun w1 b3 hN1=> ?_)
 have hb30:Blk w1 b3 66 [.int .i64 1,.string (bs [116,114]),.slice A0 (encT al).length c0,.bool false,.string (bs [])]:=hN1.blk
 have h1:=h.no hN1.chg
 have AV:=AV.no hN1.chg
 have hb0:=h1.blk
 have hb:=hb0
 have hb3:=hb30
 have C:Chg w1 w1 No:=Chg.refl _ _
 refine zz ?_
 refine zCr rfl (startK_calls 1 [116,114] [] V6 (AV.no C) (by decide)) fun wx hC=> ?_
 rw [decide_eq_true (⟨rfl,(by decide+kernel)⟩:(1:Int)=1∧ [116,114]∈B.wd V6)]
 have C:=C.no hC
 have hb:=hb0.no C
 have hb3:=hb30.no C
 refine zz ?_
 refine z_bsE (T.cellsS [[116,98,111,100,121],[116,102,111,111,116],[116,104,101,97,100]]) (want_L rfl) (by decide) rfl (by decide) (by decide) (by kernel_rfl) (fun wx cb hMx=> ?_)
 have hr:RdS wx 9 1 (.slice (some ⟨cb,0,none⟩) 3 3) 3 (T.cellsS [[116,98,111,100,121],[116,102,111,111,116],[116,104,101,97,100]]):=RdS.new hMx rfl (T.cellsS_one _)
 have hC:=hMx.chg
 have C:=C.no hC
 have hb:=hb0.no C
 have hb3:=hb30.no C
 refine zCr rfl (back_calls (h1.no C) (by omega) (l:= [[116,98,111,100,121],[116,102,111,111,116],[116,104,101,97,100]]) hr (by decide) (by rw [hfn];decide) (by rw [hfn];decide)) fun wy hC=> ?_
 have C:=C.no hC
 have hb:=hb0.no C
 have hb3:=hb30.no C
 refine zz ?_
 refine zCl rfl (enter_calls (h1.no C) (by simp only [List.length_cons];omega) hl [116,114] al (AV.no C) hal) ?_
 rintro _ wz hp
 obtain rfl:=hp.1
 refine ⟨_,rfl,?_⟩
 refine zN (zM ?_)
 exact zk_ret0 (.inl rfl) rfl (BPost.pre (hN1.chg.no C) (hp.toB (h1.no C) (hM.open_ (f:=⟨[116,114],al,.nil⟩) (show [116,114]∉fmtN by decide) (show [116,114]∉cellN by decide))))
theorem rows_end (h:IsB w b t q N (n::m::R) (f::g::fr) sk) (hM:MOk q.M (n::m::R) (f::g::fr)) (hf:fr.length≤700) (hfn:f.nm= [116,98,111,100,121]):
  Calls Tryz.prog 94 [.pointer (some ⟨b,0,none⟩),T.tokV 2 [116,98,111,100,121] T.nS []].toArray w (BPost w b t q (g.shut f::fr) sk N.length (.tuple #[])):=by
 have AV:=AttrS.nS w
 unfold T.tokV
 refine zCz 70 Tryz.func94 ?_
 refine zS (zR ?_)
 refine zBx rfl (fun w1 b3 hN1=> ?_)
 have hb30:Blk w1 b3 66 [.int .i64 2,.string (bs [116,98,111,100,121]),.slice none 0 0,.bool false,.string (bs [])]:=hN1.blk
 have h1:=h.no hN1.chg
 have AV:=AV.no hN1.chg
 have hb0:=h1.blk
 have hb:=hb0
 have hb3:=hb30
 have C:Chg w1 w1 No:=Chg.refl _ _
 refine zz ?_
 refine zCr rfl (startK_calls 2 [116,98,111,100,121] [] V6 (AV.no C) (by decide)) fun wx hC=> ?_
 rw [decide_eq_false (fun hx:(2:Int)=1∧ [116,98,111,100,121]∈B.wd V6=>absurd hx.1 (by decide))]
 have C:=C.no hC
 have hb:=hb0.no C
 have hb3:=hb30.no C
 refine zz ?_
 refine zCr rfl (startK_calls 2 [116,98,111,100,121] [] Y1 (AV.no C) (by decide)) fun wx hC=> ?_
 rw [decide_eq_false (fun hx:(2:Int)=1∧ [116,98,111,100,121]∈B.wd Y1=>absurd hx.1 (by decide))]
 have C:=C.no hC
 have hb:=hb0.no C
 have hb3:=hb30.no C
 refine zz ?_
 refine zCr rfl (endK_calls 2 [116,98,111,100,121] [] V3 (AV.no C) (by decide)) fun wx hC=> ?_
 rw [decide_eq_true (⟨rfl,(by decide+kernel)⟩:(2:Int)=2∧ [116,98,111,100,121]∈B.wd V3)]
 have C:=C.no hC
 have hb:=hb0.no C
 have hb3:=hb30.no C
 refine zz ?_
 refine zc_draw [] (fun w'=>Chg w1 w' No∧Blk w' b 64 [.pointer (some ⟨t,0,none⟩),.int .i64 0,.string ⟨#[]⟩,.bool sk]∧Blk w' b3 66 [.int .i64 2,.string (bs [116,98,111,100,121]),.slice none 0 0,.bool false,.string (bs [])]) (.take 0 (.take 1 (.take 2 (.take 3 (.take 4 (.take 5 (.all1 6 (.all1 7 (.fin))))))))) (by rfl) (by kernel_rfl) (by kernel_rfl) (fun wd hC _=>⟨?_,?_⟩)
 ·exact ⟨C.no hC,hb.no hC,hb3.no hC⟩
 have C:=C.no hC
 have hb:=hb0.no C
 have hb3:=hb30.no C
 refine zz ?_
 refine zs_bs1 rfl (want_L rfl) (by decide) rfl (by rfl) (by rfl) (by decide) (by decide) (fun wx cb hMx=> ?_)
 have hr:RdS wx 9 1 (.slice (some ⟨cb,0,none⟩) 1 1) 1 (T.cellsS [[116,98,111,100,121]]):=RdS.new hMx rfl (T.cellsS_one _)
 have C:=C.no hMx.chg
 refine ⟨⟨C,hb0.no C,hb30.no C⟩,?_⟩
 refine zs_call rfl (want_L rfl) rfl (by decide) rfl (sHas_calls (h1.no C).st (by simp only [List.length_cons];omega) (l:= [[116,98,111,100,121]]) hr (by simp) 4 (by decide)) ?_
 rintro _ wy ⟨⟨y,rfl,hy,_⟩,hC⟩
 have C:=C.no hC
 have hb:=hb0.no C
 have hb3:=hb30.no C
 refine ⟨_,rfl,⟨C,hb,hb3⟩,?_⟩
 rw [hy (by simp) (by rw [hfn];decide)]
 refine zz ?_
 refine z_bsE (T.cellsS [[116,98,111,100,121],[116,102,111,111,116],[116,104,101,97,100]]) (want_L rfl) (by decide) rfl (by decide) (by decide) (by kernel_rfl) (fun wx cb hMx=> ?_)
 have hr:RdS wx 9 1 (.slice (some ⟨cb,0,none⟩) 3 3) 3 (T.cellsS [[116,98,111,100,121],[116,102,111,111,116],[116,104,101,97,100]]):=RdS.new hMx rfl (T.cellsS_one _)
 have hC:=hMx.chg
 have C:=C.no hC
 have hb:=hb0.no C
 have hb3:=hb30.no C
 refine zCr rfl (back_calls (h1.no C) (by omega) (l:= [[116,98,111,100,121],[116,102,111,111,116],[116,104,101,97,100]]) hr (by decide) (by rw [hfn];decide) (by rw [hfn];decide)) fun wy hC=> ?_
 have C:=C.no hC
 have hb:=hb0.no C
 have hb3:=hb30.no C
 refine zz ?_
 refine zCl rfl (sPop_calls (h1.no C).st (by omega)) ?_
 rintro _ wz hp
 obtain rfl:=hp.1
 refine ⟨_,rfl,?_⟩
 have hbp:=BPost.pre (hN1.chg.no C) (hp.toB (h1.no C) ((hM.skip (mk1_none (by rw [hfn];decide) (by rw [hfn];decide))).rename rfl))
 refine zN (zM ?_)
 exact zk_ret0 (.inl rfl) rfl (hbp.ret (Chg.refl _ _))
theorem row_start (h:IsB w b t q N (n::m::R) (f::g::fr) sk) (hM:MOk q.M (n::m::R) (f::g::fr)) (hf:fr.length≤700) (hl:N.length≤1900000) (hfn:f.nm= [116,114]) (nm:List UInt8) (hn:nm∈cellN) (al:List T.At) {va:Value} (ha:AttrS w va (encT al)) (hal:al.length≤1000000):
  Calls Tryz.prog 95 [.pointer (some ⟨b,0,none⟩),T.tokV 1 nm va []].toArray w (BPost w b t q (⟨nm,al,.nil⟩::f::g::fr) sk (N.length+1) (.tuple #[])):=by
 obtain ⟨A0,c0,rfl,_⟩:=ha.form
 have AV:=ha
 unfold T.tokV
 refine zCz 70 Tryz.func95 ?_
 refine zS (zR ?_)
 refine zBx rfl (fun w1 b3 hN1=> ?_)
 have hb30:Blk w1 b3 66 [.int .i64 1,.string (bs nm),.slice A0 (encT al).length c0,.bool false,.string (bs [])]:=hN1.blk
 have h1:=h.no hN1.chg
 have AV:=AV.no hN1.chg
 have hb0:=h1.blk
 have hb:=hb0
 have hb3:=hb30
 have C:Chg w1 w1 No:=Chg.refl _ _
 refine zz ?_
 refine zCr rfl (startK_calls 1 nm [] Y1 (AV.no C) (by decide)) fun wx hC=> ?_
 rw [decide_eq_true (⟨rfl,((show∀a∈cellN,a∈B.wd Y1 by decide+kernel) nm hn)⟩:(1:Int)=1∧nm∈B.wd Y1)]
 have C:=C.no hC
 have hb:=hb0.no C
 have hb3:=hb30.no C
 refine zz ?_
 refine zB1 rfl (fun wx cb hMx=> ?_)
 have hr:RdS wx 9 1 (.slice (some ⟨cb,0,none⟩) 1 1) 1 (T.cellsS [[116,114]]):=RdS.new hMx rfl (T.cellsS_one _)
 have hC:=hMx.chg
 have C:=C.no hC
 have hb:=hb0.no C
 have hb3:=hb30.no C
 refine zCr rfl (back_calls (h1.no C) (by omega) (l:= [[116,114]]) hr (by decide) (by rw [hfn];decide) (by rw [hfn];decide)) fun wy hC=> ?_
 have C:=C.no hC
 have hb:=hb0.no C
 have hb3:=hb30.no C
 have hMl:=hM.len
 simp only [List.length_cons] at hMl
 refine zz ?_
 refine zCl rfl (enter_calls (h1.no C) (by simp only [List.length_cons];omega) hl nm al (AV.no C) hal) ?_
 rintro _ wz ⟨rfl,q1,N1,g1,g2,g3,g4⟩
 refine ⟨_,rfl,?_⟩
 obtain ⟨i1,i2⟩:=(h1.no C).stW g1 g2
 have hbz:=i1.blk
 have hbt:=i1.st.site.blk
 refine zz ?_
 refine zCl rfl (mkWall_calls i1.st.mar (by rw [g3];omega)) ?_
 rintro _ wv ⟨rfl,vm,g5,g6,g7⟩
 refine ⟨_,rfl,?_⟩
 obtain ⟨j1,j2⟩:=i1.st.mkW g5 g6 g7
 obtain ⟨j3,j4⟩:=i1.stW j1 j2
 refine zN (zM ?_)
 refine zk_ret0 (.inl rfl) rfl ⟨rfl,_,N1,N.length::n::m::R,j3,?_,(WrB.of_no (hN1.chg.no C) _ _ _).trans (i2.trans j4),g4⟩
 show (q1.M++ [MK.wall]).map MK.key=mks (n::m::R) (f::g::fr)++mk1 N.length nm
 rw [List.map_append,g3,hM,show mk1 N.length nm= [((-1:Int),[])] by unfold mk1;rw [if_neg ((show∀a∈cellN,a∉fmtN by decide) nm hn),if_pos hn]]
 rfl
theorem row_end (h:IsB w b t q N (n::m::R) (f::g::fr) sk) (hM:MOk q.M (n::m::R) (f::g::fr)) (hf:fr.length≤700) (hfn:f.nm= [116,114]):
  Calls Tryz.prog 95 [.pointer (some ⟨b,0,none⟩),T.tokV 2 [116,114] T.nS []].toArray w (BPost w b t q (g.shut f::fr) sk N.length (.tuple #[])):=by
 have AV:=AttrS.nS w
 unfold T.tokV
 refine zCz 70 Tryz.func95 ?_
 refine zS (zR ?_)
 refine zBx rfl (fun w1 b3 hN1=> ?_)
 have hb30:Blk w1 b3 66 [.int .i64 2,.string (bs [116,114]),.slice none 0 0,.bool false,.string (bs [])]:=hN1.blk
 have h1:=h.no hN1.chg
 have AV:=AV.no hN1.chg
 have hb0:=h1.blk
 have hb:=hb0
 have hb3:=hb30
 have C:Chg w1 w1 No:=Chg.refl _ _
 refine zz ?_
 refine zCr rfl (startK_calls 2 [116,114] [] Y1 (AV.no C) (by decide)) fun wx hC=> ?_
 rw [decide_eq_false (fun hx:(2:Int)=1∧ [116,114]∈B.wd Y1=>absurd hx.1 (by decide))]
 have C:=C.no hC
 have hb:=hb0.no C
 have hb3:=hb30.no C
 refine zz ?_
 refine zCr rfl (endK_calls 2 [116,114] [] V6 (AV.no C) (by decide)) fun wx hC=> ?_
 rw [decide_eq_true (⟨rfl,(by decide+kernel)⟩:(2:Int)=2∧ [116,114]∈B.wd V6)]
 have C:=C.no hC
 have hb:=hb0.no C
 have hb3:=hb30.no C
 refine zz ?_
 refine zB1 rfl (fun wx cb hMx=> ?_)
 have hr:RdS wx 9 1 (.slice (some ⟨cb,0,none⟩) 1 1) 1 (T.cellsS [[116,114]]):=RdS.new hMx rfl (T.cellsS_one _)
 have hC:=hMx.chg
 have C:=C.no hC
 have hb:=hb0.no C
 have hb3:=hb30.no C
 refine zCr rfl (back_calls (h1.no C) (by omega) (l:= [[116,114]]) hr (by decide) (by rw [hfn];decide) (by rw [hfn];decide)) fun wy hC=> ?_
 have C:=C.no hC
 have hb:=hb0.no C
 have hb3:=hb30.no C
 refine zz ?_
 refine zCl rfl (sPop_calls (h1.no C).st (by omega)) ?_
 rintro _ wz hp
 obtain rfl:=hp.1
 refine ⟨_,rfl,?_⟩
 have hbp:=BPost.pre (hN1.chg.no C) (hp.toB (h1.no C) ((hM.skip (mk1_none (by rw [hfn];decide) (by rw [hfn];decide))).rename rfl))
 refine zN (zM ?_)
 exact zk_ret0 (.inl rfl) rfl (hbp.ret (Chg.refl _ _))
theorem cell_end (h:IsB w b t q N (n::m::R) (f::g::fr) sk) (hM:MOk q.M (n::m::R) (f::g::fr)) (hf:fr.length≤700) (hn:f.nm∈cellN):
  Calls Tryz.prog 91 [.pointer (some ⟨b,0,none⟩),T.tokV 2 f.nm T.nS []].toArray w (BPost w b t q (g.shut f::fr) sk N.length (.tuple #[])):=by
 have AV:=AttrS.nS w
 unfold T.tokV
 refine zCz 44 Tryz.func91 ?_
 refine zS (zR ?_)
 refine zBx rfl (fun w1 b3 hN1=> ?_)
 have hb30:Blk w1 b3 66 [.int .i64 2,.string (bs f.nm),.slice none 0 0,.bool false,.string (bs [])]:=hN1.blk
 have h1:=h.no hN1.chg
 have AV:=AV.no hN1.chg
 have hb0:=h1.blk
 have hb:=hb0
 have hb3:=hb30
 refine zN (zK (zS ?_))
 refine zc_draw [] (fun w'=>Chg w1 w' No∧Blk w' b 64 [.pointer (some ⟨t,0,none⟩),.int .i64 0,.string ⟨#[]⟩,.bool sk]∧Blk w' b3 66 [.int .i64 2,.string (bs f.nm),.slice none 0 0,.bool false,.string (bs [])]) (.take 0 (.take 1 (.take 2 (.take 3 (.take 4 (.take 5 (.all1 6 (.all1 7 (.take 8 (.fin)))))))))) (by rfl) (by kernel_rfl) (by kernel_rfl) (fun w2 hC2 _=>⟨?_,?_⟩)
 ·exact ⟨hC2,hb.no hC2,hb30.no hC2⟩
 refine zz ?_
 refine zs_bs1 rfl (want_L rfl) (by decide) rfl (by rfl) (by rfl) (by decide) (by decide) (fun w3 cb hM3=> ?_)
 have C:=hC2.no hM3.chg
 have hr:RdS w3 9 1 (.slice (some ⟨cb,0,none⟩) 1 1) 1 (T.cellsS [f.nm]):=RdS.new hM3 rfl (T.cellsS_one _)
 refine ⟨⟨C,hb0.no C,hb30.no C⟩,?_⟩
 refine zs_call rfl (want_L rfl) rfl (by decide) rfl (sHas_calls (h1.no C).st (by simp only [List.length_cons];omega) (l:= [f.nm]) hr (by simp) 4 (by decide)) ?_
 rintro _ w4 ⟨⟨y,rfl,hy,_⟩,hC⟩
 have C:=C.no hC
 have hb:=hb0.no C
 have hb3:=hb30.no C
 refine ⟨_,rfl,⟨C,hb,hb3⟩,?_⟩
 rw [hy (by simp) (by simp)]
 refine zz ?_
 refine zCr rfl (endK_calls 2 f.nm [] Y1 (AV.no C) (by decide)) fun wx hC=> ?_
 rw [decide_eq_true (⟨rfl,((show∀a∈cellN,a∈B.wd Y1 by decide+kernel) f.nm hn)⟩:(2:Int)=2∧f.nm∈B.wd Y1)]
 have C:=C.no hC
 have hb:=hb0.no C
 have hb3:=hb30.no C
 refine zz ?_
 refine zB1 rfl (fun wx cb hMx=> ?_)
 have hr:RdS wx 9 1 (.slice (some ⟨cb,0,none⟩) 1 1) 1 (T.cellsS [f.nm]):=RdS.new hMx rfl (T.cellsS_one _)
 have C:=C.no hMx.chg
 refine zCl rfl (closeC_calls (h1.no C) hM (by omega) hn (l:= [f.nm]) hr (by simp) (by simp)) ?_
 rintro _ wz hp
 obtain rfl:=hp.1
 refine ⟨_,rfl,?_⟩
 refine zN (zM ?_)
 exact zk_ret0 (.inl rfl) rfl (BPost.pre (hN1.chg.no C) hp)
end
theorem fld71 (w:World) (c0 c1 c2 c3 c4 c5 c6:Value):(Instr.field 80 (.agg #[c0,c1,c2,c3,c4,c5,c6]) 1).run Tryz.prog w= .ok c1 w:=by kernel_rfl
section
variable {w w' w0 w1 w2 : World} {b t : Nat} {q q' q1 : SQ} {N N' : List ND} {n m k : Nat} {R R' : List Nat} {f g : FE} {fr fr' : List FE} {sk sk' : Bool} {x : Value} {e : Ending}
theorem bstate_calls (h:IsB w b t q N (n::R) (f::fr) sk) (hf:fr.length≤900):Calls Tryz.prog 24 [.pointer (some ⟨b,0,none⟩)].toArray w fun e w'=>e= .returned (.int .i64 0)∧Chg w w' No:=by
 have hb0:=h.blk
 have hb:=hb0
 have hbt0:=h.st.site.blk
 have hnN:n<N.length:=h.st.zf.lt n (by simp)
 have hd:hdOf (N.getD n n0)=elemH f.nm f.al:=h.st.zf.1
 have hx:nodeOf N (n:Nat)=N.getD n n0:=if_pos ⟨by omega,by omega⟩
 have k2:(nodeOf N (n:Nat)).space=1:=by rw [hx];exact congrArg Hd.space hd
 refine zCz 27 Tryz.func24 ?_
 refine zz ?_
 refine zc_draw [] (fun w'=>Chg w w' No∧Blk w' b 64 [.pointer (some ⟨t,0,none⟩),.int .i64 0,.string ⟨#[]⟩,.bool sk]∧Blk w' t 74 [.pointer (some ⟨q.r.pd,0,none⟩),.pointer (some ⟨q.r.pm,0,none⟩),q.r.vrow,.bool false]) (.take 0 (.take 1 (.take 2 (.take 3 (.take 4 (.take 5 (.take 6 (.take 7 (.take 8 (.take 9 (.take 10 (.all1 11 (.all1 12 (.take 13 (.take 14 (.fin)))))))))))))))) (by rfl) (by kernel_rfl) (by kernel_rfl) (fun w1 hC1 _=>⟨?_,?_⟩)
 ·exact ⟨hC1,hb0.no hC1,hbt0.no hC1⟩
 have C:=hC1
 refine zz ?_
 refine zs_call rfl (want_L rfl) rfl (by decide) rfl (sTop_calls (h.no C).st (by simp only [List.length_cons];omega)) ?_
 rintro _ w2 ⟨rfl,hC⟩
 have C:=C.no hC
 refine ⟨_,rfl,⟨C,hb0.no C,hbt0.no C⟩,?_⟩
 refine zs_call rfl (want_L rfl) rfl (by decide) rfl (rNode_calls (h.no C).st.site.doc (n:Nat)) ?_
 rintro _ w5 ⟨va5,rfl,hA5,hC5⟩
 have C:=C.no hC5
 refine ⟨_,rfl,⟨C,hb0.no C,hbt0.no C⟩,?_⟩
 rw [k2]
 refine zRd rfl rfl (fun _ hS=>r_field rfl (fld71 _ _ _ _ _ _ _ _)) ?_
 refine zz ?_
 exact zk_ret1 (.inr rfl) rfl rfl ⟨rfl,C⟩
-- TAKE (printed by ggen5.py)
theorem take_tag (h:IsB w b t q N (n::R) (f::fr) sk) (hf:fr.length≤900) (k:Int) (hk:k=1∨k=2) (nm tx:List UInt8) {va:Value} {al:List At} (ha:AttrS w va al) {fr2:List FE} {sk2:Bool} {n2:Nat}
  (hhtml: ∀w',IsB w' b t q N (n::R) (f::fr) false→AttrS w' va al→Calls Tryz.prog 54 [.pointer (some ⟨b,0,none⟩),T.tokV k nm va tx].toArray w' (BPost w' b t q fr2 sk2 n2 (.tuple #[]))):
  Calls Tryz.prog 25 [.pointer (some ⟨b,0,none⟩),T.tokV k nm va tx].toArray w (BPost w b t q fr2 sk2 n2 (.tuple #[])):=by
 obtain ⟨A0,c0,rfl,_⟩:=ha.form
 have hnN:n<N.length:=h.st.zf.lt n (by simp)
 have hd:hdOf (N.getD n n0)=elemH f.nm f.al:=h.st.zf.1
 have hx:nodeOf N (n:Nat)=N.getD n n0:=if_pos ⟨by omega,by omega⟩
 have k2:(nodeOf N (n:Nat)).space=1:=by rw [hx];exact congrArg Hd.space hd
 unfold T.tokV at hhtml ⊢
 refine zCz 119 Tryz.func25 ?_
 refine zS (zR ?_)
 refine zBx rfl (fun w1 b3 hN1=> ?_)
 have hb30:Blk w1 b3 66 [.int .i64 k,.string (bs nm),.slice A0 al.length c0,.bool false,.string (bs tx)]:=hN1.blk
 have h1:=h.no hN1.chg
 have hb:=h1.blk
 refine zz ?_
 refine z_store (want_L rfl) rfl rfl rfl (by assumption) (by first|exact Nat.le_refl _|simp [Value.cells]) (by simp [Value.cells,Value.oneCell']) (fun w2 hU2=> ?_)
 obtain ⟨h2,hW2⟩:=h1.skW hU2
 have hb2:=h2.blk
 have hkp:=WrB.keep h1 hW2
 have hb32:=hkp.2 _ _ _ hb30 (by decide)
 have ha2:=(ha.no hN1.chg).keepB hkp
 have hbt2:=h2.st.site.blk
 have fin: ∀{w3:World} {x:Ending} {w4:World},Chg w2 w3 No→BPost w3 b t q fr2 sk2 n2 (.tuple #[]) x w4→BPost w b t q fr2 sk2 n2 (.tuple #[]) x w4:=fun hC hp=>BPost.preW ((WrB.of_no hN1.chg _ _ _).trans (hW2.trans (WrB.of_no hC _ _ _))) hp
 cases sk
 ·skip
  refine zz ?_
  refine zc_draw [] (fun w'=>Chg w2 w' No∧Blk w' b 64 [.pointer (some ⟨t,0,none⟩),.int .i64 0,.string ⟨#[]⟩,.bool false]∧Blk w' t 74 [.pointer (some ⟨q.r.pd,0,none⟩),.pointer (some ⟨q.r.pm,0,none⟩),q.r.vrow,.bool false]∧Blk w' b3 66 [.int .i64 k,.string (bs nm),.slice A0 al.length c0,.bool false,.string (bs tx)]) (.take 0 (.take 1 (.take 2 (.take 3 (.take 4 (.take 5 (.take 6 (.take 7 (.take 8 (.take 9 (.take 10 (.all1 11 (.all1 12 (.take 13 (.take 14 (.take 15 (.take 16 (.take 17 (.take 18 (.take 19 (.take 20 (.take 22 (.all1 21 (.all1 23 (.take 24 (.take 25 (.take 26 (.fin)))))))))))))))))))))))))))) (by rfl) (by kernel_rfl) (by kernel_rfl) (fun w3 hC3 _=>⟨?_,?_⟩)
  ·exact ⟨hC3,hb2.no hC3,hbt2.no hC3,hb32.no hC3⟩
  have C:=hC3
  refine zz ?_
  refine zs_call rfl (want_L rfl) rfl (by decide) rfl (sTop_calls (h2.no C).st (by simp only [List.length_cons];omega)) ?_
  rintro _ w4 ⟨rfl,hC⟩
  have C:=C.no hC
  refine ⟨_,rfl,⟨C,hb2.no C,hbt2.no C,hb32.no C⟩,?_⟩
  refine zs_call rfl (want_L rfl) rfl (by decide) rfl (rNode_calls (h2.no C).st.site.doc (n:Nat)) ?_
  rintro _ w5 ⟨va5,rfl,hA5,hC5⟩
  have C:=C.no hC5
  have hb3':=hb32.no C
  refine ⟨_,rfl,⟨C,hb2.no C,hbt2.no C,hb32.no C⟩,?_⟩
  rw [k2]
  refine zRd rfl rfl (fun _ hS=>r_field rfl (fld71 _ _ _ _ _ _ _ _)) ?_
  refine zz ?_
  refine zCl rfl (hhtml _ (h2.no C) (ha2.no C)) ?_
  rintro _ w6 hp
  obtain rfl:=hp.1
  refine ⟨_,rfl,?_⟩
  refine zN (zM ?_)
  exact zk_ret0 (.inl rfl) rfl (fin C hp)
 ·skip
  refine zz ?_
  refine zc_draw [] (fun w'=>Chg w2 w' No∧Blk w' b 64 [.pointer (some ⟨t,0,none⟩),.int .i64 0,.string ⟨#[]⟩,.bool false]∧Blk w' t 74 [.pointer (some ⟨q.r.pd,0,none⟩),.pointer (some ⟨q.r.pm,0,none⟩),q.r.vrow,.bool false]∧Blk w' b3 66 [.int .i64 k,.string (bs nm),.slice A0 al.length c0,.bool false,.string (bs tx)]) (.take 0 (.take 1 (.take 2 (.take 3 (.take 4 (.take 5 (.take 6 (.take 7 (.take 8 (.take 9 (.take 10 (.all1 11 (.all1 12 (.take 13 (.take 14 (.take 15 (.take 16 (.take 17 (.take 18 (.take 19 (.take 20 (.take 22 (.all1 21 (.all1 23 (.take 24 (.take 25 (.take 26 (.fin)))))))))))))))))))))))))))) (by rfl) (by kernel_rfl) (by kernel_rfl) (fun w3 hC3 _=>⟨?_,?_⟩)
  ·exact ⟨hC3,hb2.no hC3,hbt2.no hC3,hb32.no hC3⟩
  have C:=hC3
  refine zz ?_
  refine zs_call rfl (want_L rfl) rfl (by decide) rfl (sTop_calls (h2.no C).st (by simp only [List.length_cons];omega)) ?_
  rintro _ w4 ⟨rfl,hC⟩
  have C:=C.no hC
  refine ⟨_,rfl,⟨C,hb2.no C,hbt2.no C,hb32.no C⟩,?_⟩
  refine zs_call rfl (want_L rfl) rfl (by decide) rfl (rNode_calls (h2.no C).st.site.doc (n:Nat)) ?_
  rintro _ w5 ⟨va5,rfl,hA5,hC5⟩
  have C:=C.no hC5
  have hb3':=hb32.no C
  refine ⟨_,rfl,⟨C,hb2.no C,hbt2.no C,hb32.no C⟩,?_⟩
  rw [k2]
  refine zRd rfl rfl (fun _ hS=>r_field rfl (fld71 _ _ _ _ _ _ _ _)) ?_
  refine zz ?_
  refine zCl rfl (hhtml _ (h2.no C) (ha2.no C)) ?_
  rintro _ w6 hp
  obtain rfl:=hp.1
  refine ⟨_,rfl,?_⟩
  refine zN (zM ?_)
  exact zk_ret0 (.inl rfl) rfl (fin C hp)
theorem take_text (h:IsB w b t q N (n::R) (f::fr) sk) (hf:fr.length≤900) (v:List UInt8) (hv:v.length≤10000000) (h10:sk=true→T.beginsN v [10]=false) {fr2:List FE} {sk2:Bool} {n2:Nat}
  (hhtml: ∀w',IsB w' b t q N (n::R) (f::fr) false→AttrS w' T.nS []→Calls Tryz.prog 54 [.pointer (some ⟨b,0,none⟩),T.tokV 3 [] T.nS v].toArray w' (BPost w' b t q fr2 sk2 n2 (.tuple #[]))):
  Calls Tryz.prog 25 [.pointer (some ⟨b,0,none⟩),T.tokV 3 [] T.nS v].toArray w (BPost w b t q fr2 sk2 n2 (.tuple #[])):=by
 have hnN:n<N.length:=h.st.zf.lt n (by simp)
 have hd:hdOf (N.getD n n0)=elemH f.nm f.al:=h.st.zf.1
 have hx:nodeOf N (n:Nat)=N.getD n n0:=if_pos ⟨by omega,by omega⟩
 have k2:(nodeOf N (n:Nat)).space=1:=by rw [hx];exact congrArg Hd.space hd
 unfold T.tokV at hhtml ⊢
 refine zCz 119 Tryz.func25 ?_
 refine zS (zR ?_)
 refine zBx rfl (fun w1 b3 hN1=> ?_)
 have hb30:Blk w1 b3 66 [.int .i64 3,.string (bs []),.slice none 0 0,.bool false,.string (bs v)]:=hN1.blk
 have h1:=h.no hN1.chg
 have hb:=h1.blk
 refine zz ?_
 refine z_store (want_L rfl) rfl rfl rfl (by assumption) (by first|exact Nat.le_refl _|simp [Value.cells]) (by simp [Value.cells,Value.oneCell']) (fun w2 hU2=> ?_)
 obtain ⟨h2,hW2⟩:=h1.skW hU2
 have hb2:=h2.blk
 have hkp:=WrB.keep h1 hW2
 have hb32:=hkp.2 _ _ _ hb30 (by decide)
 have ha2:=AttrS.nS w2
 have hbt2:=h2.st.site.blk
 have fin: ∀{w3:World} {x:Ending} {w4:World},Chg w2 w3 No→BPost w3 b t q fr2 sk2 n2 (.tuple #[]) x w4→BPost w b t q fr2 sk2 n2 (.tuple #[]) x w4:=fun hC hp=>BPost.preW ((WrB.of_no hN1.chg _ _ _).trans (hW2.trans (WrB.of_no hC _ _ _))) hp
 cases sk
 ·skip
  refine zz ?_
  refine zc_draw [] (fun w'=>Chg w2 w' No∧Blk w' b 64 [.pointer (some ⟨t,0,none⟩),.int .i64 0,.string ⟨#[]⟩,.bool false]∧Blk w' t 74 [.pointer (some ⟨q.r.pd,0,none⟩),.pointer (some ⟨q.r.pm,0,none⟩),q.r.vrow,.bool false]∧Blk w' b3 66 [.int .i64 3,.string (bs []),.slice none 0 0,.bool false,.string (bs v)]) (.take 0 (.take 1 (.take 2 (.take 3 (.take 4 (.take 5 (.take 6 (.take 7 (.take 8 (.take 9 (.take 10 (.all1 11 (.all1 12 (.take 13 (.take 14 (.take 15 (.take 16 (.take 17 (.take 18 (.take 19 (.take 20 (.take 22 (.all1 21 (.all1 23 (.take 24 (.take 25 (.take 26 (.fin)))))))))))))))))))))))))))) (by rfl) (by kernel_rfl) (by kernel_rfl) (fun w3 hC3 _=>⟨?_,?_⟩)
  ·exact ⟨hC3,hb2.no hC3,hbt2.no hC3,hb32.no hC3⟩
  have C:=hC3
  refine zz ?_
  refine zs_call rfl (want_L rfl) rfl (by decide) rfl (sTop_calls (h2.no C).st (by simp only [List.length_cons];omega)) ?_
  rintro _ w4 ⟨rfl,hC⟩
  have C:=C.no hC
  refine ⟨_,rfl,⟨C,hb2.no C,hbt2.no C,hb32.no C⟩,?_⟩
  refine zs_call rfl (want_L rfl) rfl (by decide) rfl (rNode_calls (h2.no C).st.site.doc (n:Nat)) ?_
  rintro _ w5 ⟨va5,rfl,hA5,hC5⟩
  have C:=C.no hC5
  have hb3':=hb32.no C
  refine ⟨_,rfl,⟨C,hb2.no C,hbt2.no C,hb32.no C⟩,?_⟩
  rw [k2]
  refine zRd rfl rfl (fun _ hS=>r_field rfl (fld71 _ _ _ _ _ _ _ _)) ?_
  refine zz ?_
  refine zCl rfl (hhtml _ (h2.no C) (ha2.no C)) ?_
  rintro _ w6 hp
  obtain rfl:=hp.1
  refine ⟨_,rfl,?_⟩
  refine zN (zM ?_)
  exact zk_ret0 (.inl rfl) rfl (fin C hp)
 ·skip
  refine zz ?_
  refine zCp rfl (T.begins_calls v [10] (show v.length≤1000000000000 by omega) (by decide)) ?_
  rw [h10 rfl]
  refine zz ?_
  refine zc_draw [] (fun w'=>Chg w2 w' No∧Blk w' b 64 [.pointer (some ⟨t,0,none⟩),.int .i64 0,.string ⟨#[]⟩,.bool false]∧Blk w' t 74 [.pointer (some ⟨q.r.pd,0,none⟩),.pointer (some ⟨q.r.pm,0,none⟩),q.r.vrow,.bool false]∧Blk w' b3 66 [.int .i64 3,.string (bs []),.slice none 0 0,.bool false,.string (bs v)]) (.take 0 (.take 1 (.take 2 (.take 3 (.take 4 (.take 5 (.take 6 (.take 7 (.take 8 (.take 9 (.take 10 (.all1 11 (.all1 12 (.take 13 (.take 14 (.take 15 (.take 16 (.take 17 (.take 18 (.take 19 (.take 20 (.take 22 (.all1 21 (.all1 23 (.take 24 (.take 25 (.take 26 (.fin)))))))))))))))))))))))))))) (by rfl) (by kernel_rfl) (by kernel_rfl) (fun w3 hC3 _=>⟨?_,?_⟩)
  ·exact ⟨hC3,hb2.no hC3,hbt2.no hC3,hb32.no hC3⟩
  have C:=hC3
  refine zz ?_
  refine zs_call rfl (want_L rfl) rfl (by decide) rfl (sTop_calls (h2.no C).st (by simp only [List.length_cons];omega)) ?_
  rintro _ w4 ⟨rfl,hC⟩
  have C:=C.no hC
  refine ⟨_,rfl,⟨C,hb2.no C,hbt2.no C,hb32.no C⟩,?_⟩
  refine zs_call rfl (want_L rfl) rfl (by decide) rfl (rNode_calls (h2.no C).st.site.doc (n:Nat)) ?_
  rintro _ w5 ⟨va5,rfl,hA5,hC5⟩
  have C:=C.no hC5
  have hb3':=hb32.no C
  refine ⟨_,rfl,⟨C,hb2.no C,hbt2.no C,hb32.no C⟩,?_⟩
  rw [k2]
  refine zRd rfl rfl (fun _ hS=>r_field rfl (fld71 _ _ _ _ _ _ _ _)) ?_
  refine zz ?_
  refine zCl rfl (hhtml _ (h2.no C) (ha2.no C)) ?_
  rintro _ w6 hp
  obtain rfl:=hp.1
  refine ⟨_,rfl,?_⟩
  refine zN (zM ?_)
  exact zk_ret0 (.inl rfl) rfl (fin C hp)
theorem IsB.boxW (h:IsB w b t q N R fr sk) {b3:Nat} {cs:List Value} (hb3:Blk w b3 66 cs) (hC:Chg w w' (· =b3)):IsB w' b t q N R fr sk:=by
 refine ⟨h.blk.chg hC (fun he=>absurd (h.blk.inj (he▸hb3)).1 (by decide)),?_⟩
 have h:=h.st
 refine ⟨h.site.chg hC (fun k hk he=> ?_) (fun k cells hk he=>absurd (hk.inj (he▸hb3)).1 (by decide)),⟨h.mar.blk.chg hC (fun he=>absurd (h.mar.blk.inj (he▸hb3)).1 (by decide)),h.mar.row.chg hC (fun k hk he=>h.mar.row.ne hk hb3 (by decide) he)⟩,h.wf,h.zf,h.big⟩
 exact h.site.noT (ty:=66) (cs:=cs) (he▸hb3) (by decide) (by decide) (by decide) (by decide) (by decide) hk
theorem take_nl (h:IsB w b t q N (n::R) (f::fr) sk) (hf:fr.length≤900) (v:List UInt8) (hv:v.length≤10000000) (hsk:sk=true) {fr2:List FE} {sk2:Bool} {n2:Nat}
  (hhtml: ∀w',IsB w' b t q N (n::R) (f::fr) false→AttrS w' T.nS []→Calls Tryz.prog 54 [.pointer (some ⟨b,0,none⟩),T.tokV 3 [] T.nS v].toArray w' (BPost w' b t q fr2 sk2 n2 (.tuple #[]))):
  Calls Tryz.prog 25 [.pointer (some ⟨b,0,none⟩),T.tokV 3 [] T.nS (10::v)].toArray w (BPost w b t q fr2 sk2 n2 (.tuple #[])):=by
 have hnN:n<N.length:=h.st.zf.lt n (by simp)
 have hd:hdOf (N.getD n n0)=elemH f.nm f.al:=h.st.zf.1
 have hx:nodeOf N (n:Nat)=N.getD n n0:=if_pos ⟨by omega,by omega⟩
 have k2:(nodeOf N (n:Nat)).space=1:=by rw [hx];exact congrArg Hd.space hd
 unfold T.tokV at hhtml ⊢
 refine zCz 119 Tryz.func25 ?_
 refine zS (zR ?_)
 refine zBx rfl (fun w1 b3 hN1=> ?_)
 have hb30:Blk w1 b3 66 [.int .i64 3,.string (bs []),.slice none 0 0,.bool false,.string (bs (10::v))]:=hN1.blk
 have h1:=h.no hN1.chg
 have hb:=h1.blk
 refine zz ?_
 refine z_store (want_L rfl) rfl rfl rfl (by assumption) (by first|exact Nat.le_refl _|simp [Value.cells]) (by simp [Value.cells,Value.oneCell']) (fun w2 hU2=> ?_)
 obtain ⟨h2,hW2⟩:=h1.skW hU2
 have hb2:=h2.blk
 have hkp:=WrB.keep h1 hW2
 have hb32:=hkp.2 _ _ _ hb30 (by decide)
 have ha2:=AttrS.nS w2
 have hbt2:=h2.st.site.blk
 have fin: ∀{w3:World} {x:Ending} {w4:World},Chg w2 w3 No→BPost w3 b t q fr2 sk2 n2 (.tuple #[]) x w4→BPost w b t q fr2 sk2 n2 (.tuple #[]) x w4:=fun hC hp=>BPost.preW ((WrB.of_no hN1.chg _ _ _).trans (hW2.trans (WrB.of_no hC _ _ _))) hp
 subst hsk
 refine zz ?_
 refine zCp rfl (T.begins_calls (10::v) [10] (show (10::v).length≤1000000000000 by simp only [List.length_cons];omega) (by decide)) ?_
 rw [show T.beginsN (10::v) [10]=true by unfold T.beginsN;simp]
 refine zz ?_
 refine z_cutN 1 (v.length+1) (want_L rfl) (by decide) rfl rfl rfl rfl (by simp) (by omega) (by simp) ?_
 rw [show ((10::v).drop 1).take (v.length+1 - 1)=v by simp]
 refine zfa rfl ?_
 refine z_store (want_L rfl) rfl rfl rfl (by assumption) (by first|exact Nat.le_refl _|simp [Value.cells]) (by simp [Value.cells,Value.oneCell']) (fun w2' hU2'=> ?_)
 have hC2':Chg w2 w2' (· =b3):=hU2'.chg
 have hnb3: ¬ftB b t q b3:=h2.noT hb32 (by decide)
 have h2:IsB w2' b t q N (n::R) (f::fr) false:=h2.boxW hb32 hC2'
 have hb2:=h2.blk
 have hbt2:=h2.st.site.blk
 have hb32:Blk w2' b3 66 [.int .i64 3,.string (bs []),.slice none 0 0,.bool false,.string (bs v)]:=hU2'.blk
 have ha2:=AttrS.nS w2'
 have hC12:Chg w w2' (ftB b t q):=((hN1.chg.mono (fun _ _ h=>h.elim)).trans hW2.chg (fun k _ hk=>hk)).trans hC2' (fun k hk he=>by have:=hN1.at_;omega)
 have hW2':WrB w w2' b t q q:=⟨hC12,fun k hk=> .inl hk⟩
 have fin: ∀{w3:World} {x:Ending} {w4:World},Chg w2' w3 No→BPost w3 b t q fr2 sk2 n2 (.tuple #[]) x w4→BPost w b t q fr2 sk2 n2 (.tuple #[]) x w4:=fun hC hp=>BPost.preW (hW2'.trans (WrB.of_no hC _ _ _)) hp
 refine zz ?_
 refine zc_draw [] (fun w'=>Chg w2' w' No∧Blk w' b 64 [.pointer (some ⟨t,0,none⟩),.int .i64 0,.string ⟨#[]⟩,.bool false]∧Blk w' t 74 [.pointer (some ⟨q.r.pd,0,none⟩),.pointer (some ⟨q.r.pm,0,none⟩),q.r.vrow,.bool false]∧Blk w' b3 66 [.int .i64 3,.string (bs []),.slice none 0 0,.bool false,.string (bs v)]) (.take 0 (.take 1 (.take 2 (.take 3 (.take 4 (.take 5 (.take 6 (.take 7 (.take 8 (.take 9 (.take 10 (.all1 11 (.all1 12 (.take 13 (.take 14 (.take 15 (.take 16 (.take 17 (.take 18 (.take 19 (.take 20 (.take 22 (.all1 21 (.all1 23 (.take 24 (.take 25 (.take 26 (.fin)))))))))))))))))))))))))))) (by rfl) (by kernel_rfl) (by kernel_rfl) (fun w3 hC3 _=>⟨?_,?_⟩)
 ·exact ⟨hC3,hb2.no hC3,hbt2.no hC3,hb32.no hC3⟩
 have C:=hC3
 refine zz ?_
 refine zs_call rfl (want_L rfl) rfl (by decide) rfl (sTop_calls (h2.no C).st (by simp only [List.length_cons];omega)) ?_
 rintro _ w4 ⟨rfl,hC⟩
 have C:=C.no hC
 refine ⟨_,rfl,⟨C,hb2.no C,hbt2.no C,hb32.no C⟩,?_⟩
 refine zs_call rfl (want_L rfl) rfl (by decide) rfl (rNode_calls (h2.no C).st.site.doc (n:Nat)) ?_
 rintro _ w5 ⟨va5,rfl,hA5,hC5⟩
 have C:=C.no hC5
 have hb3':=hb32.no C
 refine ⟨_,rfl,⟨C,hb2.no C,hbt2.no C,hb32.no C⟩,?_⟩
 rw [k2]
 refine zRd rfl rfl (fun _ hS=>r_field rfl (fld71 _ _ _ _ _ _ _ _)) ?_
 refine zz ?_
 refine zCl rfl (hhtml _ (h2.no C) (ha2.no C)) ?_
 rintro _ w6 hp
 obtain rfl:=hp.1
 refine ⟨_,rfl,?_⟩
 refine zN (zM ?_)
 exact zk_ret0 (.inl rfl) rfl (fin C hp)
end
inductive Tok where
 |start (nm:List UInt8) (al:List T.At)
 |fin (nm:List UInt8)
 |text (v:List UInt8)
def Tok.txt:Tok→List UInt8
 | .start nm al=>60::(nm++(T.attrsS al++ [62]))
 | .fin nm=>60::47::(nm++ [62])
 | .text v=>T.safeN false v
abbrev St:=List FE×Bool
def tableW:List UInt8:= [116,97,98,108,101]
def tbodyW:List UInt8:= [116,98,111,100,121]
def trW:List UInt8:= [116,114]
def preW:List UInt8:= [112,114,101]
def plainG (fr:List FE):Prop:=lastN grN fr= []∨lastN grN fr∈cellN
def topN:List FE→List UInt8
 | []=> []
 |f::_=>f.nm
def stepT:Tok→St→St
 | .start nm al,s=>(startF nm al s.1,decide (nm=preW))
 | .fin _,s=>match s.1 with
  |f::g::fr=>(g.shut f::fr,false)
  |fr=>(fr,false)
 | .text v,s=>match s.1 with
  |f::fr=>(f.txt (if s.2=true∧v.head? =some 10 then v.tail else v)::fr,false)
  | []=>([],false)
def StepOk:Tok→St→Prop
 | .start nm al,s=>s.1≠ []∧s.1.length≤700∧T.NmOk nm∧T.AtOk al∧((nm∈startN∧plainG s.1∧CondS nm s.1)∨(2≤s.1.length∧((nm=tbodyW∧topN s.1=tableW)∨(nm=trW∧topN s.1=tbodyW)∨(nm∈cellN∧topN s.1=trW))))
 | .fin nm,s=>s.1.length≤700∧2≤s.1.length∧topN s.1=nm∧T.NmOk nm∧((nm∈endN∧plainG s.1)∨nm=tableW∨nm=tbodyW∨nm=trW∨nm∈cellN)
 | .text v,s=>s.1.length≤700∧v≠ []∧0∉v∧v.length≤10000000∧plainG s.1∧(∃f fr,s.1=f::fr∧ ∀x,f.done.lastH=some x→x.kind≠2)∧(s.2=true→v.head? =some 10→v.tail≠ [])
def BS (w:World) (b t:Nat) (q:SQ) (s:St) (n:Nat):Prop:= ∃N R,IsB w b t q N R s.1 s.2∧MOk q.M R s.1∧N.length≤n
def SP (w:World) (b t:Nat) (q:SQ) (s:St) (n:Nat) (e:Ending) (w':World):Prop:=e= .returned (.tuple #[])∧ ∃q',BS w' b t q' s n∧WrB w w' b t q q'
section
variable {w w' w0 w1 w2 : World} {b t : Nat} {q q' q1 : SQ} {N N' : List ND} {n m k : Nat} {R R' : List Nat} {f g : FE} {fr fr' : List FE} {sk sk' : Bool} {x : Value} {e : Ending}
theorem BPost.sp (h:BPost w b t q fr sk n (.tuple #[]) e w') (hn:n≤m):SP w b t q (fr,sk) m e w':=by
 obtain ⟨h1,q',N',R',h2,h3,h4,h5⟩:=h
 exact ⟨h1,q',⟨N',R',h2,h3,by omega⟩,h4⟩
theorem html_plain (h:IsB w b t q N R (f::fr) sk) (hf:fr.length≤900) (k:Int) (nm tx:List UInt8) (hp:Plain k nm) {va:Value} {al:List At} (ha:AttrS w va al) {fr2:List FE} {sk2:Bool} {n2:Nat} (hgr:plainG (f::fr))
  (hbody: ∀w',Chg w w' No→Calls Tryz.prog 96 [.pointer (some ⟨b,0,none⟩),T.tokV k nm va tx].toArray w' (BPost w' b t q fr2 sk2 n2 (.tuple #[]))):
  Calls Tryz.prog 54 [.pointer (some ⟨b,0,none⟩),T.tokV k nm va tx].toArray w (BPost w b t q fr2 sk2 n2 (.tuple #[])):=by
 have hcell: ∀w',Chg w w' No→Calls Tryz.prog 91 [.pointer (some ⟨b,0,none⟩),T.tokV k nm va tx].toArray w' (BPost w' b t q fr2 sk2 n2 (.tuple #[])):=fun w1 hC=>cell_of (h.no hC) hf k nm tx hp (ha.no hC) (fun w2 hC2=>hbody w2 (hC.no hC2))
 rcases hgr with h1|h1
 ·exact html_body h hf k nm tx ha h1 hbody
 ·simp only [cellN,List.mem_cons,List.not_mem_nil,or_false] at h1
  rcases h1 with h1|h1
  ·exact html_td h hf k nm tx ha h1 hcell
  ·exact html_th h hf k nm tx ha h1 hcell
theorem lastN_top (h:f.nm∈grN):lastN grN (f::g::fr)=f.nm:=if_pos h
theorem IsB.two (h:IsB w b t q N R (f::g::fr) sk): ∃n m R',R=n::m::R':=by
 have:=h.st.len.1
 match R,this with
 |n::m::R',_=>exact ⟨n,m,R',rfl⟩
theorem IsB.one (h:IsB w b t q N R (f::fr) sk): ∃n R',R=n::R':=by
 have:=h.st.len.1
 match R,this with
 |n::R',_=>exact ⟨n,R',rfl⟩
theorem plain_start {nm:List UInt8} (h:nm∈startN):Plain 1 nm:=⟨fun _=>(show∀a∈startN,a∉B.wd Y2 by decide+kernel) nm h,fun h=>absurd h (by decide),fun h=>absurd h (by decide),fun h=>absurd h (by decide)⟩
theorem plain_end {nm:List UInt8} (h:nm∈endN):Plain 2 nm:=⟨fun h=>absurd h (by decide),fun _=>(show∀a∈endN,a∉B.wd Y1 by decide+kernel) nm h,fun _=>(show∀a∈endN,a∉B.wd Y3 by decide+kernel) nm h,fun _=>(show∀a∈endN,a∉B.wd Y4 by decide+kernel) nm h⟩
theorem plain_text (nm:List UInt8):Plain 3 nm:=⟨fun h=>absurd h (by decide),fun h=>absurd h (by decide),fun h=>absurd h (by decide),fun h=>absurd h (by decide)⟩
theorem startF_open {nm:List UInt8} {al:List T.At} (h:nm∉leafN):startF nm al (f::fr)=⟨nm,al,.nil⟩::f::fr:=if_neg h
theorem take_start {s:St} {nm:List UInt8} {al:List T.At} (h:BS w b t q s n) (ho:StepOk (.start nm al) s) (hn:n≤1900000) {va:Value} (ha:AttrS w va (encT al)):
  Calls Tryz.prog 25 [.pointer (some ⟨b,0,none⟩),T.tokV 1 nm va []].toArray w (SP w b t q (stepT (.start nm al) s) (n+1)):=by
 obtain ⟨fr0,sk⟩:=s
 obtain ⟨N,R,hB,hM,hN⟩:=h
 obtain ⟨hne,hl,hnm,hat,hc⟩:=ho
 dsimp only at*
 cases fr0 with
 |nil=>exact absurd rfl hne
 |cons f fr=>
 have hal:al.length≤1000000:=by have:=hat.ln;omega
 simp only [List.length_cons] at hl
 have fin:Calls Tryz.prog 25 [.pointer (some ⟨b,0,none⟩),T.tokV 1 nm va []].toArray w (BPost w b t q (startF nm al (f::fr)) (decide (nm=preW)) (N.length+1) (.tuple #[]))→Calls Tryz.prog 25 [.pointer (some ⟨b,0,none⟩),T.tokV 1 nm va []].toArray w (SP w b t q (startF nm al (f::fr),decide (nm=preW)) (n+1)):=fun hh=>hh.mono fun e w' hp=>hp.sp (by omega)
 refine fin ?_
 rcases hc with ⟨hs,hg,hcs⟩|⟨h2,hc⟩
 ·obtain ⟨n1,R1,rfl⟩:=hB.one
  refine take_tag hB (by omega) 1 (.inl rfl) nm [] ha fun w' hB' ha'=> ?_
  refine html_plain hB' (by omega) 1 nm [] (plain_start hs) ha' hg fun w2 hC2=> ?_
  exact body_start (hB'.no hC2) hM (by omega) (by omega) nm hs al (ha'.no hC2) hal hcs
 ·cases fr with
  |nil=>simp at h2
  |cons g fr=>
  simp only [List.length_cons] at hl
  obtain ⟨n1,m1,R1,rfl⟩:=hB.two
  refine take_tag hB (by simp only [List.length_cons];omega) 1 (.inl rfl) nm [] ha fun w' hB' ha'=> ?_
  have htop:topN (f::g::fr)=f.nm:=rfl
  rw [htop] at hc
  rcases hc with ⟨rfl,h1⟩|⟨rfl,h1⟩|⟨hcn,h1⟩
  ·have e1:startF tbodyW al (f::g::fr)=⟨tbodyW,al,.nil⟩::f::g::fr:=startF_open (by decide)
   rw [e1,decide_eq_false (show tbodyW≠preW by decide)]
   refine html_table hB' (by simp only [List.length_cons];omega) 1 tbodyW [] ha' (by rw [lastN_top (by rw [h1];decide),h1];rfl) fun w2 hC2=> ?_
   exact table_start (hB'.no hC2) hM (by omega) (by omega) h1 al (ha'.no hC2) hal
  ·have e1:startF trW al (f::g::fr)=⟨trW,al,.nil⟩::f::g::fr:=startF_open (by decide)
   rw [e1,decide_eq_false (show trW≠preW by decide)]
   refine html_tbody hB' (by simp only [List.length_cons];omega) 1 trW [] ha' (by rw [lastN_top (by rw [h1];decide),h1];rfl) fun w2 hC2=> ?_
   exact rows_start (hB'.no hC2) hM (by omega) (by omega) h1 al (ha'.no hC2) hal
  ·have e1:startF nm al (f::g::fr)=⟨nm,al,.nil⟩::f::g::fr:=startF_open ((show∀a∈cellN,a∉leafN by decide) nm hcn)
   rw [e1,decide_eq_false ((show∀a∈cellN,a≠preW by decide) nm hcn)]
   refine html_tr hB' (by simp only [List.length_cons];omega) 1 nm [] ha' (by rw [lastN_top (by rw [h1];decide),h1];rfl) fun w2 hC2=> ?_
   exact row_start (hB'.no hC2) hM (by omega) (by omega) h1 nm hcn al (ha'.no hC2) hal
theorem take_fin {s:St} {nm:List UInt8} (h:BS w b t q s n) (ho:StepOk (.fin nm) s):
  Calls Tryz.prog 25 [.pointer (some ⟨b,0,none⟩),T.tokV 2 nm T.nS []].toArray w (SP w b t q (stepT (.fin nm) s) (n+1)):=by
 obtain ⟨fr0,sk⟩:=s
 obtain ⟨N,R,hB,hM,hN⟩:=h
 obtain ⟨hl,h2,htop,hnm,hc⟩:=ho
 dsimp only at*
 match fr0,h2 with
 |f::g::fr,_=>
 simp only [List.length_cons] at hl
 obtain ⟨n1,m1,R1,rfl⟩:=hB.two
 have htop:f.nm=nm:=htop
 subst htop
 have fin:Calls Tryz.prog 25 [.pointer (some ⟨b,0,none⟩),T.tokV 2 f.nm T.nS []].toArray w (BPost w b t q (g.shut f::fr) false N.length (.tuple #[]))→Calls Tryz.prog 25 [.pointer (some ⟨b,0,none⟩),T.tokV 2 f.nm T.nS []].toArray w (SP w b t q (g.shut f::fr,false) (n+1)):=fun hh=>hh.mono fun e w' hp=>hp.sp (by omega)
 refine fin ?_
 refine take_tag hB (by simp only [List.length_cons];omega) 2 (.inr rfl) f.nm [] (AttrS.nS w) fun w' hB' ha'=> ?_
 rcases hc with ⟨hs,hg⟩|h1|h1|h1|h1
 ·refine html_plain hB' (by simp only [List.length_cons];omega) 2 f.nm [] (plain_end hs) ha' hg fun w2 hC2=> ?_
  exact body_end (hB'.no hC2) hM (by omega) hs
 ·refine html_table hB' (by simp only [List.length_cons];omega) 2 f.nm [] ha' (by rw [lastN_top (by rw [h1];decide),h1];rfl) fun w2 hC2=> ?_
  have:=table_end (hB'.no hC2) hM (by omega) h1
  rw [h1];exact this
 ·refine html_tbody hB' (by simp only [List.length_cons];omega) 2 f.nm [] ha' (by rw [lastN_top (by rw [h1];decide),h1];rfl) fun w2 hC2=> ?_
  have:=rows_end (hB'.no hC2) hM (by omega) h1
  rw [h1];exact this
 ·refine html_tr hB' (by simp only [List.length_cons];omega) 2 f.nm [] ha' (by rw [lastN_top (by rw [h1];decide),h1];rfl) fun w2 hC2=> ?_
  have:=row_end (hB'.no hC2) hM (by omega) h1
  rw [h1];exact this
 ·have hgr:f.nm∈grN:=(show∀a∈cellN,a∈grN by decide) _ h1
  have h3:=h1
  simp only [cellN,List.mem_cons,List.not_mem_nil,or_false] at h3
  rcases h3 with h3|h3
  ·refine html_td hB' (by simp only [List.length_cons];omega) 2 f.nm [] ha' (by rw [lastN_top hgr,h3]) fun w2 hC2=> ?_
   exact cell_end (hB'.no hC2) hM (by omega) h1
  ·refine html_th hB' (by simp only [List.length_cons];omega) 2 f.nm [] ha' (by rw [lastN_top hgr,h3]) fun w2 hC2=> ?_
   exact cell_end (hB'.no hC2) hM (by omega) h1
theorem take_txt {s:St} {v:List UInt8} (h:BS w b t q s n) (ho:StepOk (.text v) s) (hn:n≤1900000):
  Calls Tryz.prog 25 [.pointer (some ⟨b,0,none⟩),T.tokV 3 [] T.nS v].toArray w (SP w b t q (stepT (.text v) s) (n+1)):=by
 obtain ⟨fr0,sk⟩:=s
 obtain ⟨N,R,hB,hM,hN⟩:=h
 obtain ⟨hl,hv,h0,hvl,hg,⟨f,fr,hfr,hlast⟩,hsk⟩:=ho
 dsimp only at*
 subst hfr
 simp only [List.length_cons] at hl
 obtain ⟨n1,R1,rfl⟩:=hB.one
 have body: ∀(v2:List UInt8),v2≠ []→0∉v2→v2.length≤10000000→ ∀w',IsB w' b t q N (n1::R1) (f::fr) false→AttrS w' T.nS []→Calls Tryz.prog 54 [.pointer (some ⟨b,0,none⟩),T.tokV 3 [] T.nS v2].toArray w' (BPost w' b t q (f.txt v2::fr) false (N.length+1) (.tuple #[])):=fun v2 g1 g2 g3 w' hB' ha'=>
  html_plain hB' (by omega) 3 [] v2 (plain_text []) ha' hg fun w2 hC2=>body_text (hB'.no hC2) hM (by omega) (by omega) v2 g1 g2 g3 hlast
 have key:Calls Tryz.prog 25 [.pointer (some ⟨b,0,none⟩),T.tokV 3 [] T.nS v].toArray w (BPost w b t q (f.txt (if sk=true∧v.head? =some 10 then v.tail else v)::fr) false (N.length+1) (.tuple #[])):=by
  by_cases hc:sk=true∧v.head? =some 10
  ·rw [if_pos hc]
   obtain ⟨v',rfl⟩: ∃v',v=10::v':=by
    cases v with
    |nil=>exact absurd rfl hv
    |cons c r=>have:=hc.2;simp at this;exact ⟨r,by rw [this]⟩
   have h2:=hsk hc.1 hc.2
   exact take_nl hB (by omega) v' (by simp at hvl;omega) hc.1 (body v' h2 (fun hh=>h0 (List.mem_cons_of_mem _ hh)) (by simp at hvl;omega))
  ·rw [if_neg hc]
   refine take_text hB (by omega) v hvl (fun h1=> ?_) (body v hv h0 hvl)
   unfold T.beginsN
   refine decide_eq_false fun he=>hc ⟨h1,?_⟩
   cases v with
   |nil=>exact absurd rfl hv
   |cons c r=>simp at he;rw [he];rfl
 exact key.mono fun e w' hp=>hp.sp (by omega)
end
theorem alikeD_calls {w:World} {v1 v2:Value} {l1 l2:List At} (h1:AttrS w v1 l1) (h2:AttrS w v2 l2) (hl1:l1.length≤10000000) (hl2:l2.length≤10000000):
  Calls Tryz.prog 56 [v1,v2].toArray w fun e w'=>e= .returned (.bool (decide (l1=l2)))∧Chg w w' No:=by
 obtain ⟨A1,c1,hv1,hc1⟩:=h1.form
 obtain ⟨A2,c2,hv2,hc2⟩:=h2.form
 subst hv1;subst hv2
 refine zCz 26 Tryz.func56 ?_
 refine zz ?_
 refine z_cmp (want_L rfl) (by decide) rfl rfl rfl (fun hc=> ?_) (fun hc=> ?_)
 ·refine zz ?_
  refine zk_ret1 (.inr rfl) rfl rfl ⟨?_,Chg.refl _ _⟩
  have: ¬l1=l2:=fun h=>by subst h;omega
  rw [decide_eq_false this]
 ·have hll:l1.length=l2.length:=by omega
  refine zz ?_
  refine zc_loopW (ι:=Nat) (fun k u=> [(0,.slice A1 l1.length c1),(1,.slice A2 l2.length c2),(5,.int .i64 k)])
   (fun k u=>k≤l1.length∧Chg w u No∧l1.take k=l2.take k) (fun k u=>l1.length - k) 0 ⟨Nat.zero_le _,Chg.refl _ _,rfl⟩ ?_ ?_
  ·exact ⟨rfl,rfl,rfl,trivial⟩
  rintro k w2 ⟨hk,hC,hb⟩
  by_cases hlt:k<l1.length
  ·obtain ⟨b,o,c',hv,g0,g1⟩:=(h1.no hC).at_ k hlt
   obtain ⟨b',o',c'',hv',g0',g1'⟩:=(h2.no hC).at_ k (by omega)
   cases hv;cases hv'
   refine zz ?_
   refine zc_draw [] (fun w'=>Chg w2 w' No) (.take 0 (.take 1 (.take 2 (.take 3 (.take 4 (.take 5 (.take 6 (.take 7 (.take 8 (.fin)))))))))) (by rfl) (by kernel_rfl) (by kernel_rfl) (fun w1 hC1 hH1=>⟨?_,?_⟩)
   ·exact hC1
   refine zz ?_
   refine zRd rfl rfl (fun _ hS=>r_loadA (by rfl) rfl (agg2 (cell_no hS g0) (cell_no hS g1) (by omega))) ?_
   refine zz ?_
   refine zRd rfl rfl (fun _ hS=>r_loadA (by rfl) rfl (agg2 (cell_no hS g0') (cell_no hS g1') (by omega))) ?_
   refine zRd rfl rfl (fun _ hS=>r_neA rfl rfl (by kernel_rfl) (fun d=>eq_attr d)) ?_
   have hC2:=hC.no hC1
   cases hq:(decide ((l1.getD k at0).1=(l2.getD k at0).1) && (decide ((l1.getD k at0).2=(l2.getD k at0).2) && true))
   ·refine zz ?_
    refine zk_ret1 (.inr rfl) rfl rfl ⟨?_,hC2⟩
    have: ¬l1=l2:=fun h=>by subst h;simp at hq
    rw [decide_eq_false this]
   ·refine zz ?_
    refine zk_loopW (k+1) ⟨by omega,hC2,?_⟩ (by omega) ⟨rfl,rfl,get_int rfl (by omega),trivial⟩
    simp only [Bool.and_true,Bool.and_eq_true,decide_eq_true_eq] at hq
    rw [take_getD at0 hlt,take_getD at0 (by omega),hb,Prod.ext hq.1 hq.2]
  ·obtain rfl:k=l1.length:=by omega
   refine zz ?_
   refine zk_ret1 (.inr rfl) rfl rfl ⟨?_,hC⟩
   rw [List.take_length,hll,List.take_length] at hb
   rw [decide_eq_true hb]
theorem oneD_calls {w:World} {x y:Hd} {A A' K K':Value} {k k':NT} (hA:AttrS w A x.attrs) (hA':AttrS w A' y.attrs) (hK:TreeAt w K k) (hK':TreeAt w K' k') (hal:x.attrs.length≤10000000) (hal':y.attrs.length≤10000000):
  Calls Tryz.prog 30 [.agg #[.int .i64 x.kind,.int .i64 x.space,.string x.name,A,.string x.text,.int .i64 x.fr,K],.agg #[.int .i64 y.kind,.int .i64 y.space,.string y.name,A',.string y.text,.int .i64 y.fr,K']].toArray w fun e w'=> ∃q,e= .returned (.bool q)∧(q=true↔x=y)∧Chg w w' No:=by
 obtain ⟨A2,c2,rfl,_⟩:=hA.form
 obtain ⟨A3,c3,rfl,_⟩:=hK.form
 obtain ⟨A4,c4,rfl,_⟩:=hA'.form
 obtain ⟨A5,c5,rfl,_⟩:=hK'.form
 refine zCz 45 Tryz.func30 ?_
 refine zS (zR ?_)
 refine zBx rfl (fun w1 b1 hN1=> ?_)
 have hb1:Blk w1 b1 80 [.int .i64 x.kind,.int .i64 x.space,.string x.name,.slice A2 x.attrs.length c2,.string x.text,.int .i64 x.fr,.slice A3 k.len c3]:=hN1.blk
 refine zBx rfl (fun w2 b2 hN2=> ?_)
 have hb2:Blk w2 b2 80 [.int .i64 y.kind,.int .i64 y.space,.string y.name,.slice A4 y.attrs.length c4,.string y.text,.int .i64 y.fr,.slice A5 k'.len c5]:=hN2.blk
 have hb1:=hb1.no hN2.chg
 have hC:=hN1.chg.no hN2.chg
 by_cases h1:x.kind=y.kind
 ·by_cases h2:x.space=y.space
  ·refine zz ?_
   refine z_eqS (want_L rfl) (by decide) rfl rfl (fun hc=> ?_) (fun hc=> ?_)
   ·refine zz ?_
    refine zCr rfl (alikeD_calls (hA.no hC) (hA'.no hC) hal hal') fun w3 hC3=> ?_
    have hb1:=hb1.no hC3
    have hb2:=hb2.no hC3
    by_cases h4:x.attrs=y.attrs
    ·rw [decide_eq_true h4]
     refine zz ?_
     refine z_eqS (want_L rfl) (by decide) rfl rfl (fun hc=> ?_) (fun hc=> ?_)
     ·by_cases h6:x.fr=y.fr
      ·refine zz ?_
       exact zk_ret1 (.inr rfl) rfl rfl ⟨true,rfl,iff_of_true rfl (Hd.ext' h1 h2 (by assumption) h4 (by assumption) h6),hC.no hC3⟩
      ·refine zz ?_
       exact zk_ret1 (.inr rfl) rfl rfl ⟨false,rfl,no_ (fun h=>h6 (by rw [h])),hC.no hC3⟩
     ·have hn: ¬x.text=y.text:=by assumption
      refine zz ?_
      exact zk_ret1 (.inr rfl) rfl rfl ⟨false,rfl,no_ (fun h=>hn (by rw [h])),hC.no hC3⟩
    ·rw [decide_eq_false h4]
     refine zz ?_
     exact zk_ret1 (.inr rfl) rfl rfl ⟨false,rfl,no_ (fun h=>h4 (by rw [h])),hC.no hC3⟩
   ·have hn: ¬x.name=y.name:=by assumption
    refine zz ?_
    exact zk_ret1 (.inr rfl) rfl rfl ⟨false,rfl,no_ (fun h=>hn (by rw [h])),hC⟩
  ·refine zz ?_
   exact zk_ret1 (.inr rfl) rfl rfl ⟨false,rfl,no_ (fun h=>h2 (by rw [h])),hC⟩
 ·refine zz ?_
  exact zk_ret1 (.inr rfl) rfl rfl ⟨false,rfl,no_ (fun h=>h1 (by rw [h])),hC⟩
theorem sameR_calls: ∀(f:Nat) {w:World} {v1 v2:Value} {t1 t2:NT},TreeAt w v1 t1→TreeAt w v2 t2→FewT t1→FewT t2→t1.size≤f→f≤10000000→
  Calls Tryz.prog 11 [v1,v2].toArray w fun e w'=> ∃q,e= .returned (.bool q)∧(q=true↔t1=t2)∧Chg w w' No:=by
 intro f
 induction f with
 |zero=>
  intro w v1 v2 t1 t2 g1 g2 hf1 hf2 hs _
  obtain ⟨A1,c1,rfl,hc1⟩:=g1.form
  obtain ⟨A2,c2,rfl,hc2⟩:=g2.form
  cases t1 with
  |cons x k r=>simp [NT.size] at hs
  |nil=>
   refine zCz 41 Tryz.func11 ?_
   by_cases h0:t2.len=0
   ·have h0':=len0 h0
    subst h0'
    refine zz ?_
    refine zc_loopW (ι:=Nat) (fun i u=> [(0,.slice A1 0 c1),(1,.slice A2 0 c2),(5,.int .i64 0)]) (fun i u=>u=w) (fun i u=>0) 0 rfl ?_ ?_
    ·exact ⟨rfl,rfl,rfl,trivial⟩
    rintro i u rfl
    refine zz ?_
    exact zk_ret1 (.inr rfl) rfl rfl ⟨true,rfl,iff_of_true rfl rfl,Chg.refl _ _⟩
   ·have hl:NT.nil.len=0:=rfl
    rw [hl]
    refine zz ?_
    exact zk_ret1 (.inr rfl) rfl rfl ⟨false,rfl,no_ (fun h=>h0 (by rw [←h];rfl)),Chg.refl _ _⟩
 |succ f ih=>
  intro w v1 v2 t1 t2 g1 g2 hf1 hf2 hs hf
  obtain ⟨A1,c1,hv1,hc1⟩:=g1.form
  obtain ⟨A2,c2,hv2,hc2⟩:=g2.form
  have hls:=t1.len_size
  subst hv1;subst hv2
  refine zCz 41 Tryz.func11 ?_
  by_cases hll:t1.len=t2.len
  ·refine zz ?_
   refine zc_loopW (ι:=Nat) (fun i u=> [(0,.slice A1 t1.len c1),(1,.slice A2 t2.len c2),(5,.int .i64 i)])
    (fun i u=>i≤t1.len∧(t1.dropN i=t2.dropN i↔t1=t2)∧Chg w u No) (fun i u=>t1.len - i) 0 ⟨Nat.zero_le _,Iff.rfl,Chg.refl _ _⟩ ?_ ?_
   ·exact ⟨rfl,rfl,rfl,trivial⟩
   rintro i u ⟨hi,hd,hC⟩
   by_cases hlt:i<t1.len
   ·obtain ⟨b,o,c',x,k,r,A',K,e1,hv,hN,hA,hK⟩:=(g1.no hC).at_ i hlt
    obtain ⟨b',o',c'',y,k',r',A'',K',e2,hv',hN',hA',hK'⟩:=(g2.no hC).at_ i (by omega)
    cases hv;cases hv'
    have hsz:=t1.drop_size i
    rw [e1] at hsz
    simp only [NT.size] at hsz
    obtain ⟨hxa,hfk,hfr⟩:=hf1.drop t1 i x k r e1
    obtain ⟨hya,hfk',hfr'⟩:=hf2.drop t2 i y k' r' e2
    have hnx: ¬(x=y∧k=k')→ ¬t1=t2:=fun hn h=>by
     rw [←hd,e1,e2] at h
     simp only [NT.cons.injEq] at h
     exact hn ⟨h.1,h.2.1⟩
    refine zz ?_
    refine zc_draw [] (fun w'=>Chg u w' No) (.take 0 (.take 1 (.take 2 (.take 3 (.take 4 (.take 5 (.take 6 (.take 7 (.all1 8 (.take 9 (.take 10 (.take 11 (.take 12 (.take 13 (.take 14 (.take 15 (.take 16 (.take 17 (.take 18 (.take 19 (.take 20 (.all1 21 (.take 22 (.take 23 (.fin))))))))))))))))))))))))) (by rfl) (by kernel_rfl) (by kernel_rfl) (fun w1 hC1 hH1=>⟨?_,?_⟩)
    ·exact hC1
    refine zz ?_
    refine zRd rfl rfl (fun _ hS=>r_loadA (by rfl) rfl ((hN.no hS).agg (by omega))) ?_
    refine zz ?_
    refine zRd rfl rfl (fun _ hS=>r_loadA (by rfl) rfl ((hN'.no hS).agg (by omega))) ?_
    refine zs_call rfl (want_L rfl) rfl (by decide) rfl (oneD_calls (hA.no hC1) (hA'.no hC1) (hK.no hC1) (hK'.no hC1) hxa hya) ?_
    rintro _ u2 ⟨q1,rfl,hq1,hC2⟩
    have hC2:=hC1.no hC2
    refine ⟨_,rfl,hC2,?_⟩
    cases q1
    ·refine zz ?_
     exact zk_ret1 (.inr rfl) rfl rfl ⟨false,rfl,no_ (hnx (fun h=>absurd (hq1.2 h.1) Bool.false_ne_true)),hC.no hC2⟩
    refine zz ?_
    refine zRd rfl rfl (fun _ hS=>r_load1 rfl (cell_at (hN.no hS).c6 (by omega))) ?_
    refine zz ?_
    refine zRd rfl rfl (fun _ hS=>r_load1 rfl (cell_at (hN'.no hS).c6 (by omega))) ?_
    refine zs_call rfl (want_L rfl) rfl (by decide) rfl (ih (hK.no hC2) (hK'.no hC2) hfk hfk' (by omega) (by omega)) ?_
    rintro _ u3 ⟨q2,rfl,hq2,hC3⟩
    have hC3:=hC2.no hC3
    refine ⟨_,rfl,hC3,?_⟩
    cases q2
    ·refine zz ?_
     exact zk_ret1 (.inr rfl) rfl rfl ⟨false,rfl,no_ (hnx (fun h=>absurd (hq2.2 h.2) Bool.false_ne_true)),hC.no hC3⟩
    ·refine zz ?_
     exact zk_loopW (i+1) ⟨by omega,drop_iff hd e1 e2 (hq1.1 rfl) (hq2.1 rfl),hC.no hC3⟩ (by omega) ⟨rfl,rfl,get_int rfl (by simp),trivial⟩
   ·obtain rfl:i=t1.len:=by omega
    rw [t1.drop_len,hll,t2.drop_len] at hd
    refine zz ?_
    exact zk_ret1 (.inr rfl) rfl rfl ⟨true,rfl,iff_of_true rfl (hd.1 rfl),hC⟩
  ·refine zz ?_
   exact zk_ret1 (.inr rfl) rfl rfl ⟨false,rfl,no_ (fun h=>hll (by rw [h])),Chg.refl _ _⟩
def Tok.k:Tok→Int
 | .start _ _=>1
 | .fin _=>2
 | .text _=>3
def Tok.nm:Tok→List UInt8
 | .start nm _=>nm
 | .fin nm=>nm
 | .text _=> []
def Tok.tx:Tok→List UInt8
 | .text v=>v
 |_=> []
def Tok.al:Tok→List T.At
 | .start _ al=>al
 |_=> []
def Tok.isText:Tok→Bool
 | .text _=>true
 |_=>false
def flatT (ts:List Tok):List UInt8:=ts.flatMap Tok.txt
def nextTag:List Tok→Prop
 | []=>True
 |t::_=>t.isText=false
def RunOk:List Tok→St→Prop
 | [],_=>True
 |t::ts,s=>StepOk t s∧(t.isText=true→nextTag ts)∧RunOk ts (stepT t s)
def runT:List Tok→St→St
 | [],s=>s
 |t::ts,s=>runT ts (stepT t s)
theorem flat_head (ts:List Tok) (h:nextTag ts):(flatT ts).head? =none∨(flatT ts).head? =some 60:=by
 cases ts with
 |nil=>exact .inl rfl
 |cons t r=>
  cases t with
  |start nm al=>exact .inr rfl
  |fin nm=>exact .inr rfl
  |text v=>cases h
theorem Tok.k5 (t:Tok):t.k=1∨t.k=2∨t.k=3:=by cases t<;>simp [Tok.k]
theorem nextTok_calls {w:World} (s r:List UInt8) (p:Nat) (tok:Tok) {st:St} (ho:StepOk tok st) (hs:s.drop p=tok.txt++r) (hr:tok.isText=true→r.head? =none∨r.head? =some 60) (hl:s.length≤1000000000):
  Calls Tryz.prog 23 [.string (bs s),.int .i64 (p:Nat),.int .i64 0,.string (bs [])].toArray w fun e w'=>(∃A m c,e= .returned (.tuple #[T.tokV tok.k tok.nm (.slice A m c) tok.tx,.int .i64 ((p+tok.txt.length:Nat):Int)])∧AttrS w' (.slice A m c) (encT tok.al)∧(tok.k≠1→Value.slice A m c=T.nS))∧Chg w w' No:=by
 cases tok with
 |start nm al=>
  obtain ⟨_,_,hn,ha,_⟩:=ho
  have hs':s.drop p=60::(nm++(T.attrsS al++62::r)):=by rw [hs];simp [Tok.txt]
  refine (T.nextS_calls s nm r al p hs' hn ha hl).mono ?_
  rintro e w' ⟨⟨A,m,c,rfl,hA⟩,hC⟩
  refine ⟨⟨A,m,c,?_,?_,fun h=>absurd rfl h⟩,hC⟩
  ·have:p+nm.length+(T.attrsS al).length+2=p+(Tok.start nm al).txt.length:=by simp [Tok.txt];omega
   rw [this];rfl
  ·have:=hA.1.rd
   unfold AttrS
   rw [encT_len,encT_enc]
   exact this
 |fin nm=>
  obtain ⟨_,_,_,hn,_⟩:=ho
  have hs':s.drop p=60::47::(nm++62::r):=by rw [hs];simp [Tok.txt]
  refine (T.nextE_calls s nm r p hs' hn hl).mono ?_
  rintro e w' ⟨rfl,hC⟩
  refine ⟨⟨none,0,0,?_,AttrS.nil _,fun _=>rfl⟩,hC⟩
  have:p+nm.length+3=p+(Tok.fin nm).txt.length:=by simp [Tok.txt];omega
  rw [this];rfl
 |text v=>
  obtain ⟨_,hv,_,hvl,_⟩:=ho
  refine (T.nextT_calls s v r p hs hv (hr rfl) hl (by omega)).mono ?_
  rintro e w' ⟨rfl,hC⟩
  exact ⟨⟨none,0,0,rfl,AttrS.nil _,fun _=>rfl⟩,hC⟩
theorem takeTok_calls {w:World} {b t n:Nat} {q:SQ} {st:St} (tok:Tok) (h:BS w b t q st n) (ho:StepOk tok st) (hn:n≤1900000) {A:Option Addr} {m c:Nat} (ha:AttrS w (.slice A m c) (encT tok.al)) (hv:tok.k≠1→Value.slice A m c=T.nS):
  Calls Tryz.prog 25 [.pointer (some ⟨b,0,none⟩),T.tokV tok.k tok.nm (.slice A m c) tok.tx].toArray w (SP w b t q (stepT tok st) (n+1)):=by
 cases tok with
 |start nm al=>exact take_start h ho hn ha
 |fin nm=>rw [hv (show (2:Int)≠1 by decide)];exact take_fin h ho
 |text v=>rw [hv (show (3:Int)≠1 by decide)];exact take_txt h ho hn
theorem AttrS.upd66 {w w':World} {v:Value} {al:List At} {b:Nat} {cs:List Value} (h:AttrS w v al) (hU:Upd w w' b 66 cs):AttrS w' v al:=RdS.upd h hU (by decide)
theorem rsNew2_calls {w:World}:Calls Tryz.prog 22 [].toArray w fun x w'=> ∃t r,x= .returned (.pointer (some ⟨t,0,none⟩))∧IsT w' t r rootN [0]∧Blk w' r.pm 121 [.slice none 0 0]∧Chg w w' No∧(∀k,footT t r k→w.heap.size≤k)∧w.heap.size≤r.pm:=by
 refine zCz 6 Tryz.func22 ?_
 refine zz ?_
 refine zCl rfl rNew_calls ?_
 rintro _ w1 ⟨pd,vn,vu,vr,ms,ks,rfl,hI,hC1,hge⟩
 refine ⟨_,rfl,?_⟩
 refine zCl rfl rmNew_calls ?_
 rintro _ w2 ⟨pm,rfl,hN2⟩
 refine ⟨_,rfl,?_⟩
 refine zB1 rfl (fun w3 b3 hN3=> ?_)
 refine z_buildE #[.pointer (some ⟨pd,0,none⟩),.pointer (some ⟨pm,0,none⟩),.slice (some ⟨b3,0,none⟩) 1 1,.bool false] (want_L rfl) (by decide) rfl (by kernel_rfl) ?_
 refine zBx rfl (fun w4 b4 hN4=> ?_)
 have hC2:=hC1.no hN2.chg
 have hC3:=hC2.no hN3.chg
 have hC4:=hC3.no hN4.chg
 have s1:=hC1.size
 have s2:=hN2.chg.size
 have s3:=hN3.chg.size
 have e3:=hN3.at_
 have e4:=hN4.at_
 have hO3:Own w3 3 1 (.slice (some ⟨b3,0,none⟩) 1 1) 1 (intC [0]):=Own.mk' (junk:= []) rfl (Nat.le_refl _) (by decide) (by rw [List.append_nil];exact hN3.blk) rfl (intC_one _)
 refine zz ?_
 refine zk_ret1 (.inr rfl) rfl rfl ⟨b4,⟨pd,pm,vn,vu,vr,ms,ks,.slice (some ⟨b3,0,none⟩) 1 1⟩,rfl,⟨hN4.blk,((hI.no hN2.chg).no hN3.chg).no hN4.chg,hO3.no hN4.chg,fun k hk hf=> ?_⟩,(hN2.blk.no hN3.chg).no hN4.chg,hC4,?_,hN2.ge hC1⟩
 ·simp only [Value.ownBlock,Option.some.injEq] at hk
  have:=hI.lt k hf
  omega
 ·rintro k (hk|hk|hk)
  ·omega
  ·simp only [Value.ownBlock,Option.some.injEq] at hk;omega
  ·exact hge k hk
def rootF:FE:=⟨[],[],.nil⟩
theorem root_ZF:ZF rootN [] [0] ([rootF].map FE.ft) rootN.length:=⟨rfl,by decide,⟨[],rfl,.nil _⟩,rfl⟩
theorem RunOk.few {t:Tok} {ts:List Tok} {s:St} (h:RunOk (t::ts) s):s.1.length≤700∧s.1≠ []:=by
 obtain ⟨h1,_⟩:=h
 cases t with
 |start nm al=>exact ⟨h1.2.1,h1.1⟩
 |fin nm=>exact ⟨h1.1,fun he=>by have h2:=h1.2.1;rw [he] at h2;simp at h2⟩
 |text v=>
  obtain ⟨h2,_,_,_,_,⟨f,fr,h3,_⟩,_⟩:=h1
  exact ⟨h2,by rw [h3];simp⟩
theorem txt_pos {t:Tok} {s:St} (h:StepOk t s):1≤t.txt.length:=by
 cases t with
 |start nm al=>simp [Tok.txt]
 |fin nm=>simp [Tok.txt]
 |text v=>
  obtain ⟨_,hv,_⟩:=h
  obtain ⟨e0,k0,_,_,h3,h4,_⟩:=T.safe_step false v hv
  show 1≤(T.safeN false v).length
  rw [h3]
  have:=List.length_pos_iff.mpr h4
  rw [List.length_append];omega
theorem RunOk.len: ∀{ts:List Tok} {s:St},RunOk ts s→ts.length≤(flatT ts).length
 | [],s,h=>Nat.le_refl _
 |t::ts,s,h=>by
  have h1:=RunOk.len h.2.2
  have h2:=txt_pos h.1
  unfold flatT at h1 ⊢
  rw [List.flatMap_cons,List.length_append,List.length_cons];omega
theorem parse_calls {w:World} (s:List UInt8) (toks:List Tok) (hs:s=flatT toks) (hl:s.length≤1048576) (hok:RunOk toks ([rootF],false)) (F:FE) (sk:Bool) (hrun:runT toks ([rootF],false)=([F],sk)) (hdeep:deepT F.done≤200):
  Calls Tryz.prog 9 [.string (bs s)].toArray w fun e w'=> ∃vo,e= .returned (.tuple #[vo,.int .i64 0])∧TreeAt w' vo F.done∧F.done.size≤10000000∧Chg w w' No:=by
 refine zCz 46 Tryz.func9 ?_
 refine zz ?_
 refine zCl rfl rsNew2_calls ?_
 rintro _ w1 ⟨t,r,rfl,hT,hm,hC1,hge,hgm⟩
 refine ⟨_,rfl,?_⟩
 refine z_buildE #[.pointer (some ⟨t,0,none⟩),.int .i64 0,.string ⟨#[]⟩,.bool false] (want_L rfl) (by decide) rfl (by kernel_rfl) ?_
 refine zBx rfl (fun w2 b hN2=> ?_)
 have hgb:=hN2.ge hC1
 have hS0:IsS w2 t ⟨r,.slice none 0 0,[]⟩ rootN [0] [rootF]:=by
  refine ⟨hT.no hN2.chg,⟨hm.no hN2.chg,Own.nil⟩,rootN_WF,root_ZF,fun i=> ?_⟩
  cases i with
  |zero=>exact Nat.zero_le _
  |succ i=>exact Nat.zero_le _
 have hB0:IsB w2 b t ⟨r,.slice none 0 0,[]⟩ rootN [0] [rootF] false:=⟨hN2.blk,hS0⟩
 have hC2:Chg w w2 No:=hC1.no hN2.chg
 have hf0: ∀k,ftB b t ⟨r,.slice none 0 0,[]⟩ k→w.heap.size≤k:=by
  rintro k (rfl|hk|rfl|hk)
  ·exact hgb
  ·exact hge k hk
  ·exact hgm
  ·cases hk
 have hlen:=hok.len
 rw [←hs] at hlen
 refine zz ?_
 refine zc_loopW (ι:=List Tok×Nat×St×Nat) (fun q u=> [(0,.string (bs s)),(4,.pointer (some ⟨b,0,none⟩)),(5,.int .i64 (q.2.1:Nat))])
  (fun q u=>s.drop q.2.1=flatT q.1∧q.2.1≤s.length∧RunOk q.1 q.2.2.1∧runT q.1 q.2.2.1=([F],sk)∧q.2.2.2+q.1.length≤s.length+1∧ ∃qq,BS u b t qq q.2.2.1 q.2.2.2∧Chg w u No∧ ∀k,ftB b t qq k→w.heap.size≤k)
  (fun q u=>q.1.length) (toks,0,([rootF],false),1) ⟨hs,Nat.zero_le _,hok,hrun,by show 1+toks.length≤_;omega,_,⟨rootN,[0],hB0,rfl,Nat.le_refl _⟩,hC2,hf0⟩ ⟨rfl,rfl,rfl,trivial⟩ ?_
 rintro ⟨ts,p,st,n⟩ u ⟨hd,hp,hro,hrn,hn,qq,hBS,hCu,hfu⟩
 dsimp only at hd hp hro hrn hn hBS
 obtain ⟨NN,RR,hBu,hMu,hNn⟩:=hBS
 have hbu:=hBu.blk
 have hfew:st.1.length≤700∧st.1≠ []:=by
  cases ts with
  |nil=>cases hrn;exact ⟨by simp,by simp⟩
  |cons t0 ts=>exact hro.few
 obtain ⟨f0,fr0,hst⟩: ∃f fr,st.1=f::fr:=by
  cases h:st.1 with
  |nil=>exact absurd h hfew.2
  |cons f fr=>exact ⟨f,fr,rfl⟩
 have hBu':=hBu
 rw [hst] at hBu' hfew
 have hfe:=hfew.1
 simp only [List.length_cons] at hfe
 obtain ⟨n0',R0',rfl⟩:=hBu'.one
 refine zB (zS ?_)
 refine zc_draw [] (fun w'=>Chg u w' No∧Blk w' b 64 [.pointer (some ⟨t,0,none⟩),.int .i64 0,.string ⟨#[]⟩,.bool st.2]) (.take 0 (.take 1 (.take 2 (.take 4 (.take 5 (.take 6 (.take 7 (.all2 3 (.all2 8 (.take 9 (.take 10 (.take 11 (.all1 12 (.all1 13 (.take 14 (.fin))))))) 12 (.all1 8 (.take 9 (.take 10 (.take 11 (.all1 13 (.take 14 (.fin)))))))) 12 (.all1 3 (.all1 8 (.take 9 (.take 10 (.take 11 (.all1 13 (.take 14 (.fin)))))))))))))))) (by rfl) (by kernel_rfl) (by kernel_rfl) (fun u1 hCu1 _=>⟨?_,?_⟩)
 ·exact ⟨hCu1,hbu.no hCu1⟩
 have C:=hCu1
 refine zz ?_
 cases ts with
 |nil=>
  refine zs_two ?_ ?_
  ·refine zo_call rfl (want_L rfl) rfl (by decide) rfl (bstate_calls (hBu'.no C) (by omega)) ?_
   rintro _ ua ⟨rfl,hC⟩
   have C:=C.no hC
   refine ⟨_,rfl,⟨C,hbu.no C⟩,?_⟩
   refine zs_two ?_ ?_
   ·obtain rfl:p=s.length:=by
     have:(s.drop p).length=0:=by rw [hd];rfl
     rw [List.length_drop] at this;omega
    refine zo_call rfl (want_L rfl) rfl (by decide) rfl (T.next0_calls s (by omega)) ?_
    rintro _ uc ⟨rfl,hC⟩
    have C:=C.no hC
    refine ⟨_,rfl,⟨C,hbu.no C⟩,?_⟩
    refine ztP rfl rfl (ztP rfl rfl (ztP rfl rfl ?_))
    refine zs_alloc rfl (want_L rfl) (by decide) (fun ub b6 hN6=> ?_)
    have hge6:=hN6.ge C
    have hb60:Blk ub b6 66 [.int .i64 0,.string ⟨#[]⟩,.slice none 0 0,.bool false,.string ⟨#[]⟩]:=hN6.blk
    have C:=C.no hN6.chg
    have hb6:=hb60
    refine ⟨⟨C,hbu.no C⟩,?_⟩
    unfold T.tokV
    refine zs_store rfl (want_L rfl) rfl rfl rfl (by assumption) (by first|exact Nat.le_refl _|simp [Value.cells]) (by simp [Value.cells,Value.oneCell']) (fun ud hUd=> ?_)
    have C0:=C
    have C:Chg u ud No:=C.upd hUd hge6
    have hb6:Blk ud b6 66 [.int .i64 5,.string (bs []),.slice none 0 0,.bool false,.string (bs [])]:=hUd.blk
    refine ⟨⟨C,hbu.no C⟩,?_⟩
    refine zz ?_
    have hBe:=hBu'.no C
    have hbe:=hBe.blk
    have hbt:=hBe.st.site.blk
    cases hrn
    simp only [List.cons.injEq] at hst
    obtain ⟨rfl,rfl⟩:=hst
    have hlen1:=hBe.st.len.1
    simp only [List.length_cons,List.length_nil] at hlen1
    obtain rfl:R0'= []:=List.eq_nil_of_length_eq_zero (by omega)
    obtain ⟨z1,z2,⟨ks,z3,z4⟩,z5⟩:=hBe.st.zf
    have z5:n0'=0:=z5
    subst z5
    rw [List.append_nil] at z3
    have htf:TF NN (NN.getD 0 n0).kids F.done:=by rw [z3];exact z4.tf
    have hsz:=TF.size hBe.st.wf z2 htf
    have hNl:NN.length≤1100000:=by simp only [List.length_nil] at hn;omega
    refine zz ?_
    refine zCl rfl (rTree_calls hBe.st.wf (by omega) F.done.size hBe.st.site.doc 0 z2 F.done htf (Nat.le_refl _)) ?_
    rintro _ ue ⟨vo,rfl,hTo,hCe⟩
    refine ⟨_,rfl,?_⟩
    have hTa:=hTo.at'
    obtain ⟨Ao,co,rfl,_⟩:=hTa.form
    refine zz ?_
    refine zCr rfl (deepR_calls F.done.size hTa (Nat.le_refl _) (by omega)) fun uf hCf=> ?_
    refine zz ?_
    exact zk_ret2 (.inr rfl) rfl rfl rfl ⟨_,rfl,hTa.no hCf,by omega,((hCu.no C).no hCe).no hCf⟩
   ·refine zo_alloc rfl (want_L rfl) (by decide) (fun ub b6 hN6=> ?_)
    have hge6:=hN6.ge C
    have hb60:Blk ub b6 66 [.int .i64 0,.string ⟨#[]⟩,.slice none 0 0,.bool false,.string ⟨#[]⟩]:=hN6.blk
    have C:=C.no hN6.chg
    have hb6:=hb60
    refine ⟨⟨C,hbu.no C⟩,?_⟩
    obtain rfl:p=s.length:=by
     have:(s.drop p).length=0:=by rw [hd];rfl
     rw [List.length_drop] at this;omega
    refine zs_call rfl (want_L rfl) rfl (by decide) rfl (T.next0_calls s (by omega)) ?_
    rintro _ uc ⟨rfl,hC⟩
    have C:=C.no hC
    have hb6:=hb6.no hC
    refine ⟨_,rfl,⟨C,hbu.no C⟩,?_⟩
    unfold T.tokV
    refine ztP rfl rfl (ztP rfl rfl (ztP rfl rfl ?_))
    refine zs_store rfl (want_L rfl) rfl rfl rfl (by assumption) (by first|exact Nat.le_refl _|simp [Value.cells]) (by simp [Value.cells,Value.oneCell']) (fun ud hUd=> ?_)
    have C0:=C
    have C:Chg u ud No:=C.upd hUd hge6
    have hb6:Blk ud b6 66 [.int .i64 5,.string (bs []),.slice none 0 0,.bool false,.string (bs [])]:=hUd.blk
    refine ⟨⟨C,hbu.no C⟩,?_⟩
    refine zz ?_
    have hBe:=hBu'.no C
    have hbe:=hBe.blk
    have hbt:=hBe.st.site.blk
    cases hrn
    simp only [List.cons.injEq] at hst
    obtain ⟨rfl,rfl⟩:=hst
    have hlen1:=hBe.st.len.1
    simp only [List.length_cons,List.length_nil] at hlen1
    obtain rfl:R0'= []:=List.eq_nil_of_length_eq_zero (by omega)
    obtain ⟨z1,z2,⟨ks,z3,z4⟩,z5⟩:=hBe.st.zf
    have z5:n0'=0:=z5
    subst z5
    rw [List.append_nil] at z3
    have htf:TF NN (NN.getD 0 n0).kids F.done:=by rw [z3];exact z4.tf
    have hsz:=TF.size hBe.st.wf z2 htf
    have hNl:NN.length≤1100000:=by simp only [List.length_nil] at hn;omega
    refine zz ?_
    refine zCl rfl (rTree_calls hBe.st.wf (by omega) F.done.size hBe.st.site.doc 0 z2 F.done htf (Nat.le_refl _)) ?_
    rintro _ ue ⟨vo,rfl,hTo,hCe⟩
    refine ⟨_,rfl,?_⟩
    have hTa:=hTo.at'
    obtain ⟨Ao,co,rfl,_⟩:=hTa.form
    refine zz ?_
    refine zCr rfl (deepR_calls F.done.size hTa (Nat.le_refl _) (by omega)) fun uf hCf=> ?_
    refine zz ?_
    exact zk_ret2 (.inr rfl) rfl rfl rfl ⟨_,rfl,hTa.no hCf,by omega,((hCu.no C).no hCe).no hCf⟩
  ·refine zo_alloc rfl (want_L rfl) (by decide) (fun ub b6 hN6=> ?_)
   have hge6:=hN6.ge C
   have hb60:Blk ub b6 66 [.int .i64 0,.string ⟨#[]⟩,.slice none 0 0,.bool false,.string ⟨#[]⟩]:=hN6.blk
   have C:=C.no hN6.chg
   have hb6:=hb60
   refine ⟨⟨C,hbu.no C⟩,?_⟩
   refine zs_call rfl (want_L rfl) rfl (by decide) rfl (bstate_calls (hBu'.no C) (by omega)) ?_
   rintro _ ua ⟨rfl,hC⟩
   have C:=C.no hC
   have hb6:=hb6.no hC
   refine ⟨_,rfl,⟨C,hbu.no C⟩,?_⟩
   obtain rfl:p=s.length:=by
    have:(s.drop p).length=0:=by rw [hd];rfl
    rw [List.length_drop] at this;omega
   refine zs_call rfl (want_L rfl) rfl (by decide) rfl (T.next0_calls s (by omega)) ?_
   rintro _ uc ⟨rfl,hC⟩
   have C:=C.no hC
   have hb6:=hb6.no hC
   refine ⟨_,rfl,⟨C,hbu.no C⟩,?_⟩
   unfold T.tokV
   refine ztP rfl rfl (ztP rfl rfl (ztP rfl rfl ?_))
   refine zs_store rfl (want_L rfl) rfl rfl rfl (by assumption) (by first|exact Nat.le_refl _|simp [Value.cells]) (by simp [Value.cells,Value.oneCell']) (fun ud hUd=> ?_)
   have C0:=C
   have C:Chg u ud No:=C.upd hUd hge6
   have hb6:Blk ud b6 66 [.int .i64 5,.string (bs []),.slice none 0 0,.bool false,.string (bs [])]:=hUd.blk
   refine ⟨⟨C,hbu.no C⟩,?_⟩
   refine zz ?_
   have hBe:=hBu'.no C
   have hbe:=hBe.blk
   have hbt:=hBe.st.site.blk
   cases hrn
   simp only [List.cons.injEq] at hst
   obtain ⟨rfl,rfl⟩:=hst
   have hlen1:=hBe.st.len.1
   simp only [List.length_cons,List.length_nil] at hlen1
   obtain rfl:R0'= []:=List.eq_nil_of_length_eq_zero (by omega)
   obtain ⟨z1,z2,⟨ks,z3,z4⟩,z5⟩:=hBe.st.zf
   have z5:n0'=0:=z5
   subst z5
   rw [List.append_nil] at z3
   have htf:TF NN (NN.getD 0 n0).kids F.done:=by rw [z3];exact z4.tf
   have hsz:=TF.size hBe.st.wf z2 htf
   have hNl:NN.length≤1100000:=by simp only [List.length_nil] at hn;omega
   refine zz ?_
   refine zCl rfl (rTree_calls hBe.st.wf (by omega) F.done.size hBe.st.site.doc 0 z2 F.done htf (Nat.le_refl _)) ?_
   rintro _ ue ⟨vo,rfl,hTo,hCe⟩
   refine ⟨_,rfl,?_⟩
   have hTa:=hTo.at'
   obtain ⟨Ao,co,rfl,_⟩:=hTa.form
   refine zz ?_
   refine zCr rfl (deepR_calls F.done.size hTa (Nat.le_refl _) (by omega)) fun uf hCf=> ?_
   refine zz ?_
   exact zk_ret2 (.inr rfl) rfl rfl rfl ⟨_,rfl,hTa.no hCf,by omega,((hCu.no C).no hCe).no hCf⟩
 |cons tok ts=>
  refine zs_two ?_ ?_
  ·refine zo_call rfl (want_L rfl) rfl (by decide) rfl (bstate_calls (hBu'.no C) (by omega)) ?_
   rintro _ ua ⟨rfl,hC⟩
   have C:=C.no hC
   refine ⟨_,rfl,⟨C,hbu.no C⟩,?_⟩
   refine zs_two ?_ ?_
   ·refine zo_call rfl (want_L rfl) rfl (by decide) rfl (nextTok_calls s (flatT ts) p tok hro.1 (by rw [hd];rfl) (fun h=>flat_head ts (hro.2.1 h)) (by omega)) ?_
    rintro _ uc ⟨⟨A,m,c,rfl,hA,hv⟩,hC⟩
    have C:=C.no hC
    refine ⟨_,rfl,⟨C,hbu.no C⟩,?_⟩
    refine ztP rfl rfl (ztP rfl rfl (ztP rfl rfl ?_))
    refine zs_alloc rfl (want_L rfl) (by decide) (fun ub b6 hN6=> ?_)
    have hge6:=hN6.ge C
    have hb60:Blk ub b6 66 [.int .i64 0,.string ⟨#[]⟩,.slice none 0 0,.bool false,.string ⟨#[]⟩]:=hN6.blk
    have C:=C.no hN6.chg
    have hb6:=hb60
    refine ⟨⟨C,hbu.no C⟩,?_⟩
    have hA:=hA.no hN6.chg
    unfold T.tokV
    refine zs_store rfl (want_L rfl) rfl rfl rfl (by assumption) (by first|exact Nat.le_refl _|simp [Value.cells]) (by simp [Value.cells,Value.oneCell']) (fun ud hUd=> ?_)
    have C0:=C
    have C:Chg u ud No:=C.upd hUd hge6
    have hb6:Blk ud b6 66 [.int .i64 tok.k,.string (bs tok.nm),.slice A m c,.bool false,.string (bs tok.tx)]:=hUd.blk
    refine ⟨⟨C,hbu.no C⟩,?_⟩
    have hk5:=tok.k5
    refine zz ?_
    have hbs2:BS ud b t qq st n:=⟨NN,_,hBu.no C,hMu,hNn⟩
    simp only [List.length_cons] at hn
    refine zCl rfl (takeTok_calls tok hbs2 hro.1 (by omega) (AttrS.upd66 hA hUd) hv) ?_
    rintro _ ue ⟨rfl,q2,hB2,hW2⟩
    refine ⟨_,rfl,?_⟩
    refine zN (zM ?_)
    refine zk_loopW (ts,p+tok.txt.length,stepT tok st,n+1) ⟨?_,?_,hro.2.2,hrn,by show n+1+ts.length≤_;omega,q2,hB2,(hCu.no C).trans hW2.chg (fun k hk hf=>by have:=hfu k hf;omega),fun k hk=> ?_⟩ (by show ts.length<(tok::ts).length;simp) ⟨rfl,rfl,get_int rfl (by simp),trivial⟩
    ·dsimp only
     rw [←List.drop_drop,hd]
     show (tok.txt++flatT ts).drop _=_
     rw [List.drop_left]
    ·dsimp only
     have:(s.drop p).length=(tok.txt++flatT ts).length:=by rw [hd];rfl
     rw [List.length_drop,List.length_append] at this
     omega
    ·rcases hW2.ft k hk with h1|h1
     ·exact hfu k h1
     ·have:=(hCu.no C).size;omega
   ·refine zo_alloc rfl (want_L rfl) (by decide) (fun ub b6 hN6=> ?_)
    have hge6:=hN6.ge C
    have hb60:Blk ub b6 66 [.int .i64 0,.string ⟨#[]⟩,.slice none 0 0,.bool false,.string ⟨#[]⟩]:=hN6.blk
    have C:=C.no hN6.chg
    have hb6:=hb60
    refine ⟨⟨C,hbu.no C⟩,?_⟩
    refine zs_call rfl (want_L rfl) rfl (by decide) rfl (nextTok_calls s (flatT ts) p tok hro.1 (by rw [hd];rfl) (fun h=>flat_head ts (hro.2.1 h)) (by omega)) ?_
    rintro _ uc ⟨⟨A,m,c,rfl,hA,hv⟩,hC⟩
    have C:=C.no hC
    have hb6:=hb6.no hC
    refine ⟨_,rfl,⟨C,hbu.no C⟩,?_⟩
    unfold T.tokV
    refine ztP rfl rfl (ztP rfl rfl (ztP rfl rfl ?_))
    refine zs_store rfl (want_L rfl) rfl rfl rfl (by assumption) (by first|exact Nat.le_refl _|simp [Value.cells]) (by simp [Value.cells,Value.oneCell']) (fun ud hUd=> ?_)
    have C0:=C
    have C:Chg u ud No:=C.upd hUd hge6
    have hb6:Blk ud b6 66 [.int .i64 tok.k,.string (bs tok.nm),.slice A m c,.bool false,.string (bs tok.tx)]:=hUd.blk
    refine ⟨⟨C,hbu.no C⟩,?_⟩
    have hk5:=tok.k5
    refine zz ?_
    have hbs2:BS ud b t qq st n:=⟨NN,_,hBu.no C,hMu,hNn⟩
    simp only [List.length_cons] at hn
    refine zCl rfl (takeTok_calls tok hbs2 hro.1 (by omega) (AttrS.upd66 hA hUd) hv) ?_
    rintro _ ue ⟨rfl,q2,hB2,hW2⟩
    refine ⟨_,rfl,?_⟩
    refine zN (zM ?_)
    refine zk_loopW (ts,p+tok.txt.length,stepT tok st,n+1) ⟨?_,?_,hro.2.2,hrn,by show n+1+ts.length≤_;omega,q2,hB2,(hCu.no C).trans hW2.chg (fun k hk hf=>by have:=hfu k hf;omega),fun k hk=> ?_⟩ (by show ts.length<(tok::ts).length;simp) ⟨rfl,rfl,get_int rfl (by simp),trivial⟩
    ·dsimp only
     rw [←List.drop_drop,hd]
     show (tok.txt++flatT ts).drop _=_
     rw [List.drop_left]
    ·dsimp only
     have:(s.drop p).length=(tok.txt++flatT ts).length:=by rw [hd];rfl
     rw [List.length_drop,List.length_append] at this
     omega
    ·rcases hW2.ft k hk with h1|h1
     ·exact hfu k h1
     ·have:=(hCu.no C).size;omega
  ·refine zo_alloc rfl (want_L rfl) (by decide) (fun ub b6 hN6=> ?_)
   have hge6:=hN6.ge C
   have hb60:Blk ub b6 66 [.int .i64 0,.string ⟨#[]⟩,.slice none 0 0,.bool false,.string ⟨#[]⟩]:=hN6.blk
   have C:=C.no hN6.chg
   have hb6:=hb60
   refine ⟨⟨C,hbu.no C⟩,?_⟩
   refine zs_call rfl (want_L rfl) rfl (by decide) rfl (bstate_calls (hBu'.no C) (by omega)) ?_
   rintro _ ua ⟨rfl,hC⟩
   have C:=C.no hC
   have hb6:=hb6.no hC
   refine ⟨_,rfl,⟨C,hbu.no C⟩,?_⟩
   refine zs_call rfl (want_L rfl) rfl (by decide) rfl (nextTok_calls s (flatT ts) p tok hro.1 (by rw [hd];rfl) (fun h=>flat_head ts (hro.2.1 h)) (by omega)) ?_
   rintro _ uc ⟨⟨A,m,c,rfl,hA,hv⟩,hC⟩
   have C:=C.no hC
   have hb6:=hb6.no hC
   refine ⟨_,rfl,⟨C,hbu.no C⟩,?_⟩
   unfold T.tokV
   refine ztP rfl rfl (ztP rfl rfl (ztP rfl rfl ?_))
   refine zs_store rfl (want_L rfl) rfl rfl rfl (by assumption) (by first|exact Nat.le_refl _|simp [Value.cells]) (by simp [Value.cells,Value.oneCell']) (fun ud hUd=> ?_)
   have C0:=C
   have C:Chg u ud No:=C.upd hUd hge6
   have hb6:Blk ud b6 66 [.int .i64 tok.k,.string (bs tok.nm),.slice A m c,.bool false,.string (bs tok.tx)]:=hUd.blk
   refine ⟨⟨C,hbu.no C⟩,?_⟩
   have hk5:=tok.k5
   refine zz ?_
   have hbs2:BS ud b t qq st n:=⟨NN,_,hBu.no C,hMu,hNn⟩
   simp only [List.length_cons] at hn
   refine zCl rfl (takeTok_calls tok hbs2 hro.1 (by omega) (AttrS.upd66 hA hUd) hv) ?_
   rintro _ ue ⟨rfl,q2,hB2,hW2⟩
   refine ⟨_,rfl,?_⟩
   refine zN (zM ?_)
   refine zk_loopW (ts,p+tok.txt.length,stepT tok st,n+1) ⟨?_,?_,hro.2.2,hrn,by show n+1+ts.length≤_;omega,q2,hB2,(hCu.no C).trans hW2.chg (fun k hk hf=>by have:=hfu k hf;omega),fun k hk=> ?_⟩ (by show ts.length<(tok::ts).length;simp) ⟨rfl,rfl,get_int rfl (by simp),trivial⟩
   ·dsimp only
    rw [←List.drop_drop,hd]
    show (tok.txt++flatT ts).drop _=_
    rw [List.drop_left]
   ·dsimp only
    have:(s.drop p).length=(tok.txt++flatT ts).length:=by rw [hd];rfl
    rw [List.length_drop,List.length_append] at this
    omega
   ·rcases hW2.ft k hk with h1|h1
    ·exact hfu k h1
    ·have:=(hCu.no C).size;omega
end Go.Proofs.YtbcmiijollpgeaaGreat.D
