import Derived.Test.YtbcmiijollpgeaaGreatWF
set_option maxHeartbeats 32000000
set_option maxRecDepth 100000
set_option linter.unusedVariables false
set_option linter.unusedSimpArgs false
namespace Go.Proofs.YtbcmiijollpgeaaGreat.D
open Go Go.Z Go.Proofs
def V1:List UInt8:= [99,97,112,116,105,111,110]
def V2:List UInt8:= [99,111,108,32,99,111,108,103,114,111,117,112]
def V3:List UInt8:= [116,98,111,100,121,32,116,102,111,111,116,32,116,104,101,97,100]
def V4:List UInt8:= [116,100,32,116,104,32,116,114]
def V5:List UInt8:= [116,97,98,108,101]
def V6:List UInt8:= [116,114]
section
variable {w w' w0 w1 w2 : World} {b t : Nat} {q q' q1 : SQ} {N N' : List ND} {n m k : Nat} {R R' : List Nat} {f g : FE} {fr fr' : List FE} {sk sk' : Bool} {x : Value} {e : Ending}
theorem back_calls (h:IsB w b t q N (n::m::R) (f::g::fr) sk) (hf:fr.length≤900) {v:Value} {l:List (List UInt8)} (hr:RdS w 9 1 v l.length (T.cellsS l)) (hl:l.length≤100000) (hfl:f.nm∈l) (hne:f.nm≠ [116,101,109,112,108,97,116,101]):
  Calls Tryz.prog 127 [.pointer (some ⟨b,0,none⟩),v].toArray w fun e w'=>e= .returned (.tuple #[])∧Chg w w' No:=by
 obtain ⟨A0,c0,rfl,_⟩:=hr.form
 have hf1:(f::g::fr).length≤1000:=by simp only [List.length_cons];omega
 have hb0:=h.blk
 have hb:=hb0
 have hnN:n<N.length:=h.st.zf.lt n (by simp)
 have hpos:0<n:=by have:=h.st.zf.pos 0 (by simp);simpa using this
 have hd:hdOf (N.getD n n0)=elemH f.nm f.al:=h.st.zf.1
 refine zCz 43 Tryz.func127 ?_
 refine zB ?_
 refine zc_loopW (ι:=Nat) (fun k u=> [(0,.pointer (some ⟨b,0,none⟩)),(1,.slice A0 l.length c0)]) (fun k u=>u=w) (fun k u=>0) 0 rfl ⟨rfl,rfl,trivial⟩ ?_
 rintro k u hu
 obtain rfl:=hu.symm
 refine zS (zS ?_)
 refine zc_draw [] (fun w'=>Chg w w' No∧Blk w' b 64 [.pointer (some ⟨t,0,none⟩),.int .i64 0,.string ⟨#[]⟩,.bool sk]) (.take 0 (.take 1 (.take 2 (.take 3 (.all1 4 (.take 5 (.take 6 (.take 7 (.take 8 (.take 9 (.take 10 (.take 11 (.take 12 (.take 13 (.take 14 (.all2 15 (.all1 16 (.all1 17 (.take 18 (.take 19 (.take 20 (.take 21 (.take 22 (.take 23 (.take 24 (.take 25 (.take 26 (.take 27 (.take 28 (.take 30 (.all1 29 (.all1 31 (.take 32 (.take 33 (.fin))))))))))))))))))) 16 (.all1 15 (.all1 17 (.take 18 (.take 19 (.take 20 (.take 21 (.take 22 (.take 23 (.take 24 (.take 25 (.take 26 (.take 27 (.take 28 (.take 30 (.all1 29 (.all1 31 (.take 32 (.take 33 (.fin))))))))))))))))))))))))))))))))))) (by rfl) (by kernel_rfl) (by kernel_rfl) (fun w1 hC1 _=>⟨?_,?_⟩)
 ·exact ⟨hC1,hb.no hC1⟩
 have C:=hC1
 refine zz ?_
 refine zs_call rfl (want_L rfl) rfl (by decide) rfl (sTop_calls (h.no C).st hf1) ?_
 rintro _ w2 ⟨rfl,hC⟩
 have C:=C.no hC
 refine ⟨_,rfl,⟨C,hb0.no C⟩,?_⟩
 refine zz ?_
 refine zs_two ?_ ?_
 ·refine zo_call rfl (want_L rfl) rfl (by decide) rfl (sTop_calls (h.no C).st hf1) ?_
  rintro _ w3 ⟨rfl,hC⟩
  have C:=C.no hC
  refine ⟨_,rfl,⟨C,hb0.no C⟩,?_⟩
  refine zs_bs1 rfl (want_L rfl) (by decide) rfl (by rfl) (by rfl) (by decide) (by decide) (fun w3' cb hM3=> ?_)
  have C:=C.no hM3.chg
  have hr0:RdS w3' 9 1 (.slice (some ⟨cb,0,none⟩) 1 1) 1 (T.cellsS [[116,101,109,112,108,97,116,101]]):=RdS.new hM3 rfl (T.cellsS_one _)
  refine ⟨⟨C,hb0.no C⟩,?_⟩
  refine zs_call rfl (want_L rfl) rfl (by decide) rfl (rsIs2_calls (h.no C).st.site (l:= [[116,101,109,112,108,97,116,101]]) hr0 (by decide) n hnN f.nm f.al hd) ?_
  rintro _ w4 ⟨rfl,hC⟩
  have C:=C.no hC
  refine ⟨_,rfl,⟨C,hb0.no C⟩,?_⟩
  rw [decide_eq_false (fun hh:n≠0∧f.nm∈ [[116,101,109,112,108,97,116,101]]=>hne (by simpa using hh.2))]
  refine zz ?_
  refine zs_call rfl (want_L rfl) rfl (by decide) rfl (sTop_calls (h.no C).st hf1) ?_
  rintro _ w5 ⟨rfl,hC⟩
  have C:=C.no hC
  refine ⟨_,rfl,⟨C,hb0.no C⟩,?_⟩
  refine zs_call rfl (want_L rfl) rfl (by decide) rfl (rsIs2_calls (h.no C).st.site (hr.no C) hl n hnN f.nm f.al hd) ?_
  rintro _ w6 ⟨rfl,hC⟩
  have C:=C.no hC
  refine ⟨_,rfl,⟨C,hb0.no C⟩,?_⟩
  rw [decide_eq_true (⟨by omega,hfl⟩:n≠0∧f.nm∈l)]
  refine zz ?_
  exact zk_ret0 (.inl rfl) rfl ⟨rfl,C⟩
 ·refine zo_bs1 rfl (want_L rfl) (by decide) rfl (by rfl) (by rfl) (by decide) (by decide) (fun w3 cb hM3=> ?_)
  have C:=C.no hM3.chg
  have hr0:RdS w3 9 1 (.slice (some ⟨cb,0,none⟩) 1 1) 1 (T.cellsS [[116,101,109,112,108,97,116,101]]):=RdS.new hM3 rfl (T.cellsS_one _)
  refine ⟨⟨C,hb0.no C⟩,?_⟩
  refine zs_call rfl (want_L rfl) rfl (by decide) rfl (sTop_calls (h.no C).st hf1) ?_
  rintro _ w3' ⟨rfl,hC⟩
  have C:=C.no hC
  have hr0:=hr0.no hC
  refine ⟨_,rfl,⟨C,hb0.no C⟩,?_⟩
  refine zs_call rfl (want_L rfl) rfl (by decide) rfl (rsIs2_calls (h.no C).st.site (l:= [[116,101,109,112,108,97,116,101]]) hr0 (by decide) n hnN f.nm f.al hd) ?_
  rintro _ w4 ⟨rfl,hC⟩
  have C:=C.no hC
  refine ⟨_,rfl,⟨C,hb0.no C⟩,?_⟩
  rw [decide_eq_false (fun hh:n≠0∧f.nm∈ [[116,101,109,112,108,97,116,101]]=>hne (by simpa using hh.2))]
  refine zz ?_
  refine zs_call rfl (want_L rfl) rfl (by decide) rfl (sTop_calls (h.no C).st hf1) ?_
  rintro _ w5 ⟨rfl,hC⟩
  have C:=C.no hC
  refine ⟨_,rfl,⟨C,hb0.no C⟩,?_⟩
  refine zs_call rfl (want_L rfl) rfl (by decide) rfl (rsIs2_calls (h.no C).st.site (hr.no C) hl n hnN f.nm f.al hd) ?_
  rintro _ w6 ⟨rfl,hC⟩
  have C:=C.no hC
  refine ⟨_,rfl,⟨C,hb0.no C⟩,?_⟩
  rw [decide_eq_true (⟨by omega,hfl⟩:n≠0∧f.nm∈l)]
  refine zz ?_
  exact zk_ret0 (.inl rfl) rfl ⟨rfl,C⟩
theorem table_start (h:IsB w b t q N (n::m::R) (f::g::fr) sk) (hM:MOk q.M (n::m::R) (f::g::fr)) (hf:fr.length≤700) (hl:N.length≤1900000) (hfn:f.nm= [116,97,98,108,101]) (al:List T.At) {va:Value} (ha:AttrS w va (encT al)) (hal:al.length≤1000000):
  Calls Tryz.prog 93 [.pointer (some ⟨b,0,none⟩),T.tokV 1 [116,98,111,100,121] va []].toArray w (BPost w b t q (⟨[116,98,111,100,121],al,.nil⟩::f::g::fr) sk (N.length+1) (.tuple #[])):=by
 obtain ⟨A0,c0,rfl,_⟩:=ha.form
 have AV:=ha
 unfold T.tokV
 refine zCz 139 Tryz.func93 ?_
 refine zS (zR ?_)
 refine zBx rfl (fun w1 b3 hN1=> ?_)
 have hb30:Blk w1 b3 66 [.int .i64 1,.string (bs [116,98,111,100,121]),.slice A0 (encT al).length c0,.bool false,.string (bs [])]:=hN1.blk
 have h1:=h.no hN1.chg
 have AV:=AV.no hN1.chg
 have hb0:=h1.blk
 have hb:=hb0
 have hb3:=hb30
 have C:Chg w1 w1 No:=Chg.refl _ _
 refine zz ?_
 refine zc_draw [] (fun w'=>Chg w1 w' No∧Blk w' b 64 [.pointer (some ⟨t,0,none⟩),.int .i64 0,.string ⟨#[]⟩,.bool sk]∧Blk w' b3 66 [.int .i64 1,.string (bs [116,98,111,100,121]),.slice A0 (encT al).length c0,.bool false,.string (bs [])]) (.take 0 (.take 1 (.take 2 (.take 3 (.take 4 (.take 5 (.take 6 (.take 7 (.take 8 (.take 9 (.take 10 (.take 11 (.all2 12 (.all1 13 (.all1 14 (.take 15 (.take 16 (.take 17 (.take 18 (.all1 19 (.all1 20 (.take 21 (.take 22 (.fin))))))))))) 13 (.all1 12 (.all1 14 (.take 15 (.take 16 (.take 17 (.take 18 (.all1 19 (.all1 20 (.take 21 (.take 22 (.fin)))))))))))))))))))))))) (by rfl) (by kernel_rfl) (by kernel_rfl) (fun wd hC _=>⟨?_,?_⟩)
 ·exact ⟨hC,hb.no hC,hb3.no hC⟩
 have C:=hC
 have hb:=hb0.no C
 have hb3:=hb30.no C
 refine zz ?_
 refine zs_two ?_ ?_
 ·refine zo_skipL rfl rfl ?_
  refine zz ?_
  refine zCr rfl (startK_calls 1 [116,98,111,100,121] [] V1 (AV.no C) (by decide)) fun wx hC=> ?_
  rw [decide_eq_false (fun hx:(1:Int)=1∧ [116,98,111,100,121]∈B.wd V1=>absurd hx.2 (by decide+kernel))]
  have C:=C.no hC
  have hb:=hb0.no C
  have hb3:=hb30.no C
  refine zz ?_
  refine zCr rfl (startK_calls 1 [116,98,111,100,121] [] V2 (AV.no C) (by decide)) fun wx hC=> ?_
  rw [decide_eq_false (fun hx:(1:Int)=1∧ [116,98,111,100,121]∈B.wd V2=>absurd hx.2 (by decide+kernel))]
  have C:=C.no hC
  have hb:=hb0.no C
  have hb3:=hb30.no C
  refine zz ?_
  refine zCr rfl (startK_calls 1 [116,98,111,100,121] [] V3 (AV.no C) (by decide)) fun wx hC=> ?_
  rw [decide_eq_true (⟨rfl,(by decide+kernel)⟩:(1:Int)=1∧ [116,98,111,100,121]∈B.wd V3)]
  have C:=C.no hC
  have hb:=hb0.no C
  have hb3:=hb30.no C
  refine zz ?_
  refine zB1 rfl (fun wx cb hMx=> ?_)
  have hr:RdS wx 9 1 (.slice (some ⟨cb,0,none⟩) 1 1) 1 (T.cellsS [[116,97,98,108,101]]):=RdS.new hMx rfl (T.cellsS_one _)
  have hC:=hMx.chg
  have C:=C.no hC
  have hb:=hb0.no C
  have hb3:=hb30.no C
  refine zCr rfl (back_calls (h1.no C) (by omega) (l:= [[116,97,98,108,101]]) hr (by decide) (by rw [hfn];decide) (by rw [hfn];decide)) fun wy hC=> ?_
  have C:=C.no hC
  have hb:=hb0.no C
  have hb3:=hb30.no C
  refine zz ?_
  refine zCl rfl (enter_calls (h1.no C) (by simp only [List.length_cons];omega) hl [116,98,111,100,121] al (AV.no C) hal) ?_
  rintro _ wz hp
  obtain rfl:=hp.1
  refine ⟨_,rfl,?_⟩
  refine zN (zM ?_)
  exact zk_ret0 (.inl rfl) rfl (BPost.pre (hN1.chg.no C) (hp.toB (h1.no C) (hM.open_ (f:=⟨[116,98,111,100,121],al,.nil⟩) (show [116,98,111,100,121]∉fmtN by decide) (show [116,98,111,100,121]∉cellN by decide))))
 ·refine zo_skipL rfl rfl ?_
  refine zz ?_
  refine zCr rfl (startK_calls 1 [116,98,111,100,121] [] V1 (AV.no C) (by decide)) fun wx hC=> ?_
  rw [decide_eq_false (fun hx:(1:Int)=1∧ [116,98,111,100,121]∈B.wd V1=>absurd hx.2 (by decide+kernel))]
  have C:=C.no hC
  have hb:=hb0.no C
  have hb3:=hb30.no C
  refine zz ?_
  refine zCr rfl (startK_calls 1 [116,98,111,100,121] [] V2 (AV.no C) (by decide)) fun wx hC=> ?_
  rw [decide_eq_false (fun hx:(1:Int)=1∧ [116,98,111,100,121]∈B.wd V2=>absurd hx.2 (by decide+kernel))]
  have C:=C.no hC
  have hb:=hb0.no C
  have hb3:=hb30.no C
  refine zz ?_
  refine zCr rfl (startK_calls 1 [116,98,111,100,121] [] V3 (AV.no C) (by decide)) fun wx hC=> ?_
  rw [decide_eq_true (⟨rfl,(by decide+kernel)⟩:(1:Int)=1∧ [116,98,111,100,121]∈B.wd V3)]
  have C:=C.no hC
  have hb:=hb0.no C
  have hb3:=hb30.no C
  refine zz ?_
  refine zB1 rfl (fun wx cb hMx=> ?_)
  have hr:RdS wx 9 1 (.slice (some ⟨cb,0,none⟩) 1 1) 1 (T.cellsS [[116,97,98,108,101]]):=RdS.new hMx rfl (T.cellsS_one _)
  have hC:=hMx.chg
  have C:=C.no hC
  have hb:=hb0.no C
  have hb3:=hb30.no C
  refine zCr rfl (back_calls (h1.no C) (by omega) (l:= [[116,97,98,108,101]]) hr (by decide) (by rw [hfn];decide) (by rw [hfn];decide)) fun wy hC=> ?_
  have C:=C.no hC
  have hb:=hb0.no C
  have hb3:=hb30.no C
  refine zz ?_
  refine zCl rfl (enter_calls (h1.no C) (by simp only [List.length_cons];omega) hl [116,98,111,100,121] al (AV.no C) hal) ?_
  rintro _ wz hp
  obtain rfl:=hp.1
  refine ⟨_,rfl,?_⟩
  refine zN (zM ?_)
  exact zk_ret0 (.inl rfl) rfl (BPost.pre (hN1.chg.no C) (hp.toB (h1.no C) (hM.open_ (f:=⟨[116,98,111,100,121],al,.nil⟩) (show [116,98,111,100,121]∉fmtN by decide) (show [116,98,111,100,121]∉cellN by decide))))
theorem table_end (h:IsB w b t q N (n::m::R) (f::g::fr) sk) (hM:MOk q.M (n::m::R) (f::g::fr)) (hf:fr.length≤700) (hfn:f.nm= [116,97,98,108,101]):
  Calls Tryz.prog 93 [.pointer (some ⟨b,0,none⟩),T.tokV 2 [116,97,98,108,101] T.nS []].toArray w (BPost w b t q (g.shut f::fr) sk N.length (.tuple #[])):=by
 have AV:=AttrS.nS w
 unfold T.tokV
 refine zCz 139 Tryz.func93 ?_
 refine zS (zR ?_)
 refine zBx rfl (fun w1 b3 hN1=> ?_)
 have hb30:Blk w1 b3 66 [.int .i64 2,.string (bs [116,97,98,108,101]),.slice none 0 0,.bool false,.string (bs [])]:=hN1.blk
 have h1:=h.no hN1.chg
 have AV:=AV.no hN1.chg
 have hb0:=h1.blk
 have hb:=hb0
 have hb3:=hb30
 have C:Chg w1 w1 No:=Chg.refl _ _
 refine zz ?_
 refine zc_draw [] (fun w'=>Chg w1 w' No∧Blk w' b 64 [.pointer (some ⟨t,0,none⟩),.int .i64 0,.string ⟨#[]⟩,.bool sk]∧Blk w' b3 66 [.int .i64 2,.string (bs [116,97,98,108,101]),.slice none 0 0,.bool false,.string (bs [])]) (.take 0 (.take 1 (.take 2 (.take 3 (.take 4 (.take 5 (.take 6 (.take 7 (.take 8 (.take 9 (.take 10 (.take 11 (.all2 12 (.all1 13 (.all1 14 (.take 15 (.take 16 (.take 17 (.take 18 (.all1 19 (.all1 20 (.take 21 (.take 22 (.fin))))))))))) 13 (.all1 12 (.all1 14 (.take 15 (.take 16 (.take 17 (.take 18 (.all1 19 (.all1 20 (.take 21 (.take 22 (.fin)))))))))))))))))))))))) (by rfl) (by kernel_rfl) (by kernel_rfl) (fun wd hC _=>⟨?_,?_⟩)
 ·exact ⟨hC,hb.no hC,hb3.no hC⟩
 have C:=hC
 have hb:=hb0.no C
 have hb3:=hb30.no C
 refine zz ?_
 refine zs_two ?_ ?_
 ·refine zo_skipL rfl rfl ?_
  refine zz ?_
  refine zCr rfl (startK_calls 2 [116,97,98,108,101] [] V1 (AV.no C) (by decide)) fun wx hC=> ?_
  rw [decide_eq_false (fun hx:(2:Int)=1∧ [116,97,98,108,101]∈B.wd V1=>absurd hx.1 (by decide))]
  have C:=C.no hC
  have hb:=hb0.no C
  have hb3:=hb30.no C
  refine zz ?_
  refine zCr rfl (startK_calls 2 [116,97,98,108,101] [] V2 (AV.no C) (by decide)) fun wx hC=> ?_
  rw [decide_eq_false (fun hx:(2:Int)=1∧ [116,97,98,108,101]∈B.wd V2=>absurd hx.1 (by decide))]
  have C:=C.no hC
  have hb:=hb0.no C
  have hb3:=hb30.no C
  refine zz ?_
  refine zCr rfl (startK_calls 2 [116,97,98,108,101] [] V3 (AV.no C) (by decide)) fun wx hC=> ?_
  rw [decide_eq_false (fun hx:(2:Int)=1∧ [116,97,98,108,101]∈B.wd V3=>absurd hx.1 (by decide))]
  have C:=C.no hC
  have hb:=hb0.no C
  have hb3:=hb30.no C
  refine zz ?_
  refine zCr rfl (startK_calls 2 [116,97,98,108,101] [] V4 (AV.no C) (by decide)) fun wx hC=> ?_
  rw [decide_eq_false (fun hx:(2:Int)=1∧ [116,97,98,108,101]∈B.wd V4=>absurd hx.1 (by decide))]
  have C:=C.no hC
  have hb:=hb0.no C
  have hb3:=hb30.no C
  refine zz ?_
  refine zCr rfl (startK_calls 2 [116,97,98,108,101] [] V5 (AV.no C) (by decide)) fun wx hC=> ?_
  rw [decide_eq_false (fun hx:(2:Int)=1∧ [116,97,98,108,101]∈B.wd V5=>absurd hx.1 (by decide))]
  have C:=C.no hC
  have hb:=hb0.no C
  have hb3:=hb30.no C
  refine zz ?_
  refine zCr rfl (endK_calls 2 [116,97,98,108,101] [] V5 (AV.no C) (by decide)) fun wx hC=> ?_
  rw [decide_eq_true (⟨rfl,(by decide+kernel)⟩:(2:Int)=2∧ [116,97,98,108,101]∈B.wd V5)]
  have C:=C.no hC
  have hb:=hb0.no C
  have hb3:=hb30.no C
  refine zz ?_
  refine zB1 rfl (fun wx cb hMx=> ?_)
  have hr:RdS wx 9 1 (.slice (some ⟨cb,0,none⟩) 1 1) 1 (T.cellsS [[116,97,98,108,101]]):=RdS.new hMx rfl (T.cellsS_one _)
  have hC:=hMx.chg
  have C:=C.no hC
  have hb:=hb0.no C
  have hb3:=hb30.no C
  refine zCl rfl (sHas_calls (h1.no C).st (by simp only [List.length_cons];omega) (l:= [[116,97,98,108,101]]) hr (by simp) 4 (by decide)) ?_
  rintro _ wy ⟨⟨y,rfl,hy,_⟩,hC⟩
  refine ⟨_,rfl,?_⟩
  rw [hy (by simp) (by rw [hfn];decide)]
  have C:=C.no hC
  have hb:=hb0.no C
  have hb3:=hb30.no C
  refine zz ?_
  refine zB1 rfl (fun wx cb hMx=> ?_)
  have hr:RdS wx 9 1 (.slice (some ⟨cb,0,none⟩) 1 1) 1 (T.cellsS [[116,97,98,108,101]]):=RdS.new hMx rfl (T.cellsS_one _)
  have hC:=hMx.chg
  have C:=C.no hC
  have hb:=hb0.no C
  have hb3:=hb30.no C
  refine zCl rfl (sPopTo_calls (h1.no C).st (by omega) (l:= [[116,97,98,108,101]]) hr (by simp) (by rw [hfn];decide)) ?_
  rintro _ wz hp
  obtain rfl:=hp.1
  refine ⟨_,rfl,?_⟩
  have hbp:=BPost.pre (hN1.chg.no C) (hp.toB (h1.no C) ((hM.skip (mk1_none (by rw [hfn];decide) (by rw [hfn];decide))).rename rfl))
  refine zN (zM ?_)
  exact zk_ret0 (.inl rfl) rfl (hbp.ret (Chg.refl _ _))
 ·refine zo_skipL rfl rfl ?_
  refine zz ?_
  refine zCr rfl (startK_calls 2 [116,97,98,108,101] [] V1 (AV.no C) (by decide)) fun wx hC=> ?_
  rw [decide_eq_false (fun hx:(2:Int)=1∧ [116,97,98,108,101]∈B.wd V1=>absurd hx.1 (by decide))]
  have C:=C.no hC
  have hb:=hb0.no C
  have hb3:=hb30.no C
  refine zz ?_
  refine zCr rfl (startK_calls 2 [116,97,98,108,101] [] V2 (AV.no C) (by decide)) fun wx hC=> ?_
  rw [decide_eq_false (fun hx:(2:Int)=1∧ [116,97,98,108,101]∈B.wd V2=>absurd hx.1 (by decide))]
  have C:=C.no hC
  have hb:=hb0.no C
  have hb3:=hb30.no C
  refine zz ?_
  refine zCr rfl (startK_calls 2 [116,97,98,108,101] [] V3 (AV.no C) (by decide)) fun wx hC=> ?_
  rw [decide_eq_false (fun hx:(2:Int)=1∧ [116,97,98,108,101]∈B.wd V3=>absurd hx.1 (by decide))]
  have C:=C.no hC
  have hb:=hb0.no C
  have hb3:=hb30.no C
  refine zz ?_
  refine zCr rfl (startK_calls 2 [116,97,98,108,101] [] V4 (AV.no C) (by decide)) fun wx hC=> ?_
  rw [decide_eq_false (fun hx:(2:Int)=1∧ [116,97,98,108,101]∈B.wd V4=>absurd hx.1 (by decide))]
  have C:=C.no hC
  have hb:=hb0.no C
  have hb3:=hb30.no C
  refine zz ?_
  refine zCr rfl (startK_calls 2 [116,97,98,108,101] [] V5 (AV.no C) (by decide)) fun wx hC=> ?_
  rw [decide_eq_false (fun hx:(2:Int)=1∧ [116,97,98,108,101]∈B.wd V5=>absurd hx.1 (by decide))]
  have C:=C.no hC
  have hb:=hb0.no C
  have hb3:=hb30.no C
  refine zz ?_
  refine zCr rfl (endK_calls 2 [116,97,98,108,101] [] V5 (AV.no C) (by decide)) fun wx hC=> ?_
  rw [decide_eq_true (⟨rfl,(by decide+kernel)⟩:(2:Int)=2∧ [116,97,98,108,101]∈B.wd V5)]
  have C:=C.no hC
  have hb:=hb0.no C
  have hb3:=hb30.no C
  refine zz ?_
  refine zB1 rfl (fun wx cb hMx=> ?_)
  have hr:RdS wx 9 1 (.slice (some ⟨cb,0,none⟩) 1 1) 1 (T.cellsS [[116,97,98,108,101]]):=RdS.new hMx rfl (T.cellsS_one _)
  have hC:=hMx.chg
  have C:=C.no hC
  have hb:=hb0.no C
  have hb3:=hb30.no C
  refine zCl rfl (sHas_calls (h1.no C).st (by simp only [List.length_cons];omega) (l:= [[116,97,98,108,101]]) hr (by simp) 4 (by decide)) ?_
  rintro _ wy ⟨⟨y,rfl,hy,_⟩,hC⟩
  refine ⟨_,rfl,?_⟩
  rw [hy (by simp) (by rw [hfn];decide)]
  have C:=C.no hC
  have hb:=hb0.no C
  have hb3:=hb30.no C
  refine zz ?_
  refine zB1 rfl (fun wx cb hMx=> ?_)
  have hr:RdS wx 9 1 (.slice (some ⟨cb,0,none⟩) 1 1) 1 (T.cellsS [[116,97,98,108,101]]):=RdS.new hMx rfl (T.cellsS_one _)
  have hC:=hMx.chg
  have C:=C.no hC
  have hb:=hb0.no C
  have hb3:=hb30.no C
  refine zCl rfl (sPopTo_calls (h1.no C).st (by omega) (l:= [[116,97,98,108,101]]) hr (by simp) (by rw [hfn];decide)) ?_
  rintro _ wz hp
  obtain rfl:=hp.1
  refine ⟨_,rfl,?_⟩
  have hbp:=BPost.pre (hN1.chg.no C) (hp.toB (h1.no C) ((hM.skip (mk1_none (by rw [hfn];decide) (by rw [hfn];decide))).rename rfl))
  refine zN (zM ?_)
  exact zk_ret0 (.inl rfl) rfl (hbp.ret (Chg.refl _ _))
theorem rows_start (h:IsB w b t q N (n::m::R) (f::g::fr) sk) (hM:MOk q.M (n::m::R) (f::g::fr)) (hf:fr.length≤700) (hl:N.length≤1900000) (hfn:f.nm= [116,98,111,100,121]) (al:List T.At) {va:Value} (ha:AttrS w va (encT al)) (hal:al.length≤1000000):
  Calls Tryz.prog 94 [.pointer (some ⟨b,0,none⟩),T.tokV 1 [116,114] va []].toArray w (BPost w b t q (⟨[116,114],al,.nil⟩::f::g::fr) sk (N.length+1) (.tuple #[])):=by
 obtain ⟨A0,c0,rfl,_⟩:=ha.form
 have AV:=ha
 unfold T.tokV
 refine zCz 70 Tryz.func94 ?_
 refine zS (zR ?_)
 refine zBx rfl (fun w1 b3 hN1=> ?_)
 have hb30:Blk w1 b3 66 [.int .i64 1,.string (bs [116,114]),.slice A0 (encT al).length c0,.bool false,.string (bs [])]:=hN1.blk
 have h1:=h.no hN1.chg
 have AV:=AV.no hN1.chg
 have hb0:=h1.blk
 have hb:=hb0
 have hb3:=hb30
 have C:Chg w1 w1 No:=Chg.refl _ _
 refine zz ?_
 refine zCr rfl (startK_calls 1 [116,114] [] V6 (AV.no C) (by decide)) fun wx hC=> ?_
 rw [decide_eq_true (⟨rfl,(by decide+kernel)⟩:(1:Int)=1∧ [116,114]∈B.wd V6)]
 have C:=C.no hC
 have hb:=hb0.no C
 have hb3:=hb30.no C
 refine zz ?_
 refine z_bsE (T.cellsS [[116,98,111,100,121],[116,102,111,111,116],[116,104,101,97,100]]) (want_L rfl) (by decide) rfl (by decide) (by decide) (by kernel_rfl) (fun wx cb hMx=> ?_)
 have hr:RdS wx 9 1 (.slice (some ⟨cb,0,none⟩) 3 3) 3 (T.cellsS [[116,98,111,100,121],[116,102,111,111,116],[116,104,101,97,100]]):=RdS.new hMx rfl (T.cellsS_one _)
 have hC:=hMx.chg
 have C:=C.no hC
 have hb:=hb0.no C
 have hb3:=hb30.no C
 refine zCr rfl (back_calls (h1.no C) (by omega) (l:= [[116,98,111,100,121],[116,102,111,111,116],[116,104,101,97,100]]) hr (by decide) (by rw [hfn];decide) (by rw [hfn];decide)) fun wy hC=> ?_
 have C:=C.no hC
 have hb:=hb0.no C
 have hb3:=hb30.no C
 refine zz ?_
 refine zCl rfl (enter_calls (h1.no C) (by simp only [List.length_cons];omega) hl [116,114] al (AV.no C) hal) ?_
 rintro _ wz hp
 obtain rfl:=hp.1
 refine ⟨_,rfl,?_⟩
 refine zN (zM ?_)
 exact zk_ret0 (.inl rfl) rfl (BPost.pre (hN1.chg.no C) (hp.toB (h1.no C) (hM.open_ (f:=⟨[116,114],al,.nil⟩) (show [116,114]∉fmtN by decide) (show [116,114]∉cellN by decide))))
theorem rows_end (h:IsB w b t q N (n::m::R) (f::g::fr) sk) (hM:MOk q.M (n::m::R) (f::g::fr)) (hf:fr.length≤700) (hfn:f.nm= [116,98,111,100,121]):
  Calls Tryz.prog 94 [.pointer (some ⟨b,0,none⟩),T.tokV 2 [116,98,111,100,121] T.nS []].toArray w (BPost w b t q (g.shut f::fr) sk N.length (.tuple #[])):=by
 have AV:=AttrS.nS w
 unfold T.tokV
 refine zCz 70 Tryz.func94 ?_
 refine zS (zR ?_)
 refine zBx rfl (fun w1 b3 hN1=> ?_)
 have hb30:Blk w1 b3 66 [.int .i64 2,.string (bs [116,98,111,100,121]),.slice none 0 0,.bool false,.string (bs [])]:=hN1.blk
 have h1:=h.no hN1.chg
 have AV:=AV.no hN1.chg
 have hb0:=h1.blk
 have hb:=hb0
 have hb3:=hb30
 have C:Chg w1 w1 No:=Chg.refl _ _
 refine zz ?_
 refine zCr rfl (startK_calls 2 [116,98,111,100,121] [] V6 (AV.no C) (by decide)) fun wx hC=> ?_
 rw [decide_eq_false (fun hx:(2:Int)=1∧ [116,98,111,100,121]∈B.wd V6=>absurd hx.1 (by decide))]
 have C:=C.no hC
 have hb:=hb0.no C
 have hb3:=hb30.no C
 refine zz ?_
 refine zCr rfl (startK_calls 2 [116,98,111,100,121] [] Y1 (AV.no C) (by decide)) fun wx hC=> ?_
 rw [decide_eq_false (fun hx:(2:Int)=1∧ [116,98,111,100,121]∈B.wd Y1=>absurd hx.1 (by decide))]
 have C:=C.no hC
 have hb:=hb0.no C
 have hb3:=hb30.no C
 refine zz ?_
 refine zCr rfl (endK_calls 2 [116,98,111,100,121] [] V3 (AV.no C) (by decide)) fun wx hC=> ?_
 rw [decide_eq_true (⟨rfl,(by decide+kernel)⟩:(2:Int)=2∧ [116,98,111,100,121]∈B.wd V3)]
 have C:=C.no hC
 have hb:=hb0.no C
 have hb3:=hb30.no C
 refine zz ?_
 refine zc_draw [] (fun w'=>Chg w1 w' No∧Blk w' b 64 [.pointer (some ⟨t,0,none⟩),.int .i64 0,.string ⟨#[]⟩,.bool sk]∧Blk w' b3 66 [.int .i64 2,.string (bs [116,98,111,100,121]),.slice none 0 0,.bool false,.string (bs [])]) (.take 0 (.take 1 (.take 2 (.take 3 (.take 4 (.take 5 (.all1 6 (.all1 7 (.fin))))))))) (by rfl) (by kernel_rfl) (by kernel_rfl) (fun wd hC _=>⟨?_,?_⟩)
 ·exact ⟨C.no hC,hb.no hC,hb3.no hC⟩
 have C:=C.no hC
 have hb:=hb0.no C
 have hb3:=hb30.no C
 refine zz ?_
 refine zs_bs1 rfl (want_L rfl) (by decide) rfl (by rfl) (by rfl) (by decide) (by decide) (fun wx cb hMx=> ?_)
 have hr:RdS wx 9 1 (.slice (some ⟨cb,0,none⟩) 1 1) 1 (T.cellsS [[116,98,111,100,121]]):=RdS.new hMx rfl (T.cellsS_one _)
 have C:=C.no hMx.chg
 refine ⟨⟨C,hb0.no C,hb30.no C⟩,?_⟩
 refine zs_call rfl (want_L rfl) rfl (by decide) rfl (sHas_calls (h1.no C).st (by simp only [List.length_cons];omega) (l:= [[116,98,111,100,121]]) hr (by simp) 4 (by decide)) ?_
 rintro _ wy ⟨⟨y,rfl,hy,_⟩,hC⟩
 have C:=C.no hC
 have hb:=hb0.no C
 have hb3:=hb30.no C
 refine ⟨_,rfl,⟨C,hb,hb3⟩,?_⟩
 rw [hy (by simp) (by rw [hfn];decide)]
 refine zz ?_
 refine z_bsE (T.cellsS [[116,98,111,100,121],[116,102,111,111,116],[116,104,101,97,100]]) (want_L rfl) (by decide) rfl (by decide) (by decide) (by kernel_rfl) (fun wx cb hMx=> ?_)
 have hr:RdS wx 9 1 (.slice (some ⟨cb,0,none⟩) 3 3) 3 (T.cellsS [[116,98,111,100,121],[116,102,111,111,116],[116,104,101,97,100]]):=RdS.new hMx rfl (T.cellsS_one _)
 have hC:=hMx.chg
 have C:=C.no hC
 have hb:=hb0.no C
 have hb3:=hb30.no C
 refine zCr rfl (back_calls (h1.no C) (by omega) (l:= [[116,98,111,100,121],[116,102,111,111,116],[116,104,101,97,100]]) hr (by decide) (by rw [hfn];decide) (by rw [hfn];decide)) fun wy hC=> ?_
 have C:=C.no hC
 have hb:=hb0.no C
 have hb3:=hb30.no C
 refine zz ?_
 refine zCl rfl (sPop_calls (h1.no C).st (by omega)) ?_
 rintro _ wz hp
 obtain rfl:=hp.1
 refine ⟨_,rfl,?_⟩
 have hbp:=BPost.pre (hN1.chg.no C) (hp.toB (h1.no C) ((hM.skip (mk1_none (by rw [hfn];decide) (by rw [hfn];decide))).rename rfl))
 refine zN (zM ?_)
 exact zk_ret0 (.inl rfl) rfl (hbp.ret (Chg.refl _ _))
theorem row_start (h:IsB w b t q N (n::m::R) (f::g::fr) sk) (hM:MOk q.M (n::m::R) (f::g::fr)) (hf:fr.length≤700) (hl:N.length≤1900000) (hfn:f.nm= [116,114]) (nm:List UInt8) (hn:nm∈cellN) (al:List T.At) {va:Value} (ha:AttrS w va (encT al)) (hal:al.length≤1000000):
  Calls Tryz.prog 95 [.pointer (some ⟨b,0,none⟩),T.tokV 1 nm va []].toArray w (BPost w b t q (⟨nm,al,.nil⟩::f::g::fr) sk (N.length+1) (.tuple #[])):=by
 obtain ⟨A0,c0,rfl,_⟩:=ha.form
 have AV:=ha
 unfold T.tokV
 refine zCz 70 Tryz.func95 ?_
 refine zS (zR ?_)
 refine zBx rfl (fun w1 b3 hN1=> ?_)
 have hb30:Blk w1 b3 66 [.int .i64 1,.string (bs nm),.slice A0 (encT al).length c0,.bool false,.string (bs [])]:=hN1.blk
 have h1:=h.no hN1.chg
 have AV:=AV.no hN1.chg
 have hb0:=h1.blk
 have hb:=hb0
 have hb3:=hb30
 have C:Chg w1 w1 No:=Chg.refl _ _
 refine zz ?_
 refine zCr rfl (startK_calls 1 nm [] Y1 (AV.no C) (by decide)) fun wx hC=> ?_
 rw [decide_eq_true (⟨rfl,((show∀a∈cellN,a∈B.wd Y1 by decide+kernel) nm hn)⟩:(1:Int)=1∧nm∈B.wd Y1)]
 have C:=C.no hC
 have hb:=hb0.no C
 have hb3:=hb30.no C
 refine zz ?_
 refine zB1 rfl (fun wx cb hMx=> ?_)
 have hr:RdS wx 9 1 (.slice (some ⟨cb,0,none⟩) 1 1) 1 (T.cellsS [[116,114]]):=RdS.new hMx rfl (T.cellsS_one _)
 have hC:=hMx.chg
 have C:=C.no hC
 have hb:=hb0.no C
 have hb3:=hb30.no C
 refine zCr rfl (back_calls (h1.no C) (by omega) (l:= [[116,114]]) hr (by decide) (by rw [hfn];decide) (by rw [hfn];decide)) fun wy hC=> ?_
 have C:=C.no hC
 have hb:=hb0.no C
 have hb3:=hb30.no C
 have hMl:=hM.len
 simp only [List.length_cons] at hMl
 refine zz ?_
 refine zCl rfl (enter_calls (h1.no C) (by simp only [List.length_cons];omega) hl nm al (AV.no C) hal) ?_
 rintro _ wz ⟨rfl,q1,N1,g1,g2,g3,g4⟩
 refine ⟨_,rfl,?_⟩
 obtain ⟨i1,i2⟩:=(h1.no C).stW g1 g2
 have hbz:=i1.blk
 have hbt:=i1.st.site.blk
 refine zz ?_
 refine zCl rfl (mkWall_calls i1.st.mar (by rw [g3];omega)) ?_
 rintro _ wv ⟨rfl,vm,g5,g6,g7⟩
 refine ⟨_,rfl,?_⟩
 obtain ⟨j1,j2⟩:=i1.st.mkW g5 g6 g7
 obtain ⟨j3,j4⟩:=i1.stW j1 j2
 refine zN (zM ?_)
 refine zk_ret0 (.inl rfl) rfl ⟨rfl,_,N1,N.length::n::m::R,j3,?_,(WrB.of_no (hN1.chg.no C) _ _ _).trans (i2.trans j4),g4⟩
 show (q1.M++ [MK.wall]).map MK.key=mks (n::m::R) (f::g::fr)++mk1 N.length nm
 rw [List.map_append,g3,hM,show mk1 N.length nm= [((-1:Int),[])] by unfold mk1;rw [if_neg ((show∀a∈cellN,a∉fmtN by decide) nm hn),if_pos hn]]
 rfl
theorem row_end (h:IsB w b t q N (n::m::R) (f::g::fr) sk) (hM:MOk q.M (n::m::R) (f::g::fr)) (hf:fr.length≤700) (hfn:f.nm= [116,114]):
  Calls Tryz.prog 95 [.pointer (some ⟨b,0,none⟩),T.tokV 2 [116,114] T.nS []].toArray w (BPost w b t q (g.shut f::fr) sk N.length (.tuple #[])):=by
 have AV:=AttrS.nS w
 unfold T.tokV
 refine zCz 70 Tryz.func95 ?_
 refine zS (zR ?_)
 refine zBx rfl (fun w1 b3 hN1=> ?_)
 have hb30:Blk w1 b3 66 [.int .i64 2,.string (bs [116,114]),.slice none 0 0,.bool false,.string (bs [])]:=hN1.blk
 have h1:=h.no hN1.chg
 have AV:=AV.no hN1.chg
 have hb0:=h1.blk
 have hb:=hb0
 have hb3:=hb30
 have C:Chg w1 w1 No:=Chg.refl _ _
 refine zz ?_
 refine zCr rfl (startK_calls 2 [116,114] [] Y1 (AV.no C) (by decide)) fun wx hC=> ?_
 rw [decide_eq_false (fun hx:(2:Int)=1∧ [116,114]∈B.wd Y1=>absurd hx.1 (by decide))]
 have C:=C.no hC
 have hb:=hb0.no C
 have hb3:=hb30.no C
 refine zz ?_
 refine zCr rfl (endK_calls 2 [116,114] [] V6 (AV.no C) (by decide)) fun wx hC=> ?_
 rw [decide_eq_true (⟨rfl,(by decide+kernel)⟩:(2:Int)=2∧ [116,114]∈B.wd V6)]
 have C:=C.no hC
 have hb:=hb0.no C
 have hb3:=hb30.no C
 refine zz ?_
 refine zB1 rfl (fun wx cb hMx=> ?_)
 have hr:RdS wx 9 1 (.slice (some ⟨cb,0,none⟩) 1 1) 1 (T.cellsS [[116,114]]):=RdS.new hMx rfl (T.cellsS_one _)
 have hC:=hMx.chg
 have C:=C.no hC
 have hb:=hb0.no C
 have hb3:=hb30.no C
 refine zCr rfl (back_calls (h1.no C) (by omega) (l:= [[116,114]]) hr (by decide) (by rw [hfn];decide) (by rw [hfn];decide)) fun wy hC=> ?_
 have C:=C.no hC
 have hb:=hb0.no C
 have hb3:=hb30.no C
 refine zz ?_
 refine zCl rfl (sPop_calls (h1.no C).st (by omega)) ?_
 rintro _ wz hp
 obtain rfl:=hp.1
 refine ⟨_,rfl,?_⟩
 have hbp:=BPost.pre (hN1.chg.no C) (hp.toB (h1.no C) ((hM.skip (mk1_none (by rw [hfn];decide) (by rw [hfn];decide))).rename rfl))
 refine zN (zM ?_)
 exact zk_ret0 (.inl rfl) rfl (hbp.ret (Chg.refl _ _))
theorem cell_end (h:IsB w b t q N (n::m::R) (f::g::fr) sk) (hM:MOk q.M (n::m::R) (f::g::fr)) (hf:fr.length≤700) (hn:f.nm∈cellN):
  Calls Tryz.prog 91 [.pointer (some ⟨b,0,none⟩),T.tokV 2 f.nm T.nS []].toArray w (BPost w b t q (g.shut f::fr) sk N.length (.tuple #[])):=by
 have AV:=AttrS.nS w
 unfold T.tokV
 refine zCz 44 Tryz.func91 ?_
 refine zS (zR ?_)
 refine zBx rfl (fun w1 b3 hN1=> ?_)
 have hb30:Blk w1 b3 66 [.int .i64 2,.string (bs f.nm),.slice none 0 0,.bool false,.string (bs [])]:=hN1.blk
 have h1:=h.no hN1.chg
 have AV:=AV.no hN1.chg
 have hb0:=h1.blk
 have hb:=hb0
 have hb3:=hb30
 refine zN (zK (zS ?_))
 refine zc_draw [] (fun w'=>Chg w1 w' No∧Blk w' b 64 [.pointer (some ⟨t,0,none⟩),.int .i64 0,.string ⟨#[]⟩,.bool sk]∧Blk w' b3 66 [.int .i64 2,.string (bs f.nm),.slice none 0 0,.bool false,.string (bs [])]) (.take 0 (.take 1 (.take 2 (.take 3 (.take 4 (.take 5 (.all1 6 (.all1 7 (.take 8 (.fin)))))))))) (by rfl) (by kernel_rfl) (by kernel_rfl) (fun w2 hC2 _=>⟨?_,?_⟩)
 ·exact ⟨hC2,hb.no hC2,hb30.no hC2⟩
 refine zz ?_
 refine zs_bs1 rfl (want_L rfl) (by decide) rfl (by rfl) (by rfl) (by decide) (by decide) (fun w3 cb hM3=> ?_)
 have C:=hC2.no hM3.chg
 have hr:RdS w3 9 1 (.slice (some ⟨cb,0,none⟩) 1 1) 1 (T.cellsS [f.nm]):=RdS.new hM3 rfl (T.cellsS_one _)
 refine ⟨⟨C,hb0.no C,hb30.no C⟩,?_⟩
 refine zs_call rfl (want_L rfl) rfl (by decide) rfl (sHas_calls (h1.no C).st (by simp only [List.length_cons];omega) (l:= [f.nm]) hr (by simp) 4 (by decide)) ?_
 rintro _ w4 ⟨⟨y,rfl,hy,_⟩,hC⟩
 have C:=C.no hC
 have hb:=hb0.no C
 have hb3:=hb30.no C
 refine ⟨_,rfl,⟨C,hb,hb3⟩,?_⟩
 rw [hy (by simp) (by simp)]
 refine zz ?_
 refine zCr rfl (endK_calls 2 f.nm [] Y1 (AV.no C) (by decide)) fun wx hC=> ?_
 rw [decide_eq_true (⟨rfl,((show∀a∈cellN,a∈B.wd Y1 by decide+kernel) f.nm hn)⟩:(2:Int)=2∧f.nm∈B.wd Y1)]
 have C:=C.no hC
 have hb:=hb0.no C
 have hb3:=hb30.no C
 refine zz ?_
 refine zB1 rfl (fun wx cb hMx=> ?_)
 have hr:RdS wx 9 1 (.slice (some ⟨cb,0,none⟩) 1 1) 1 (T.cellsS [f.nm]):=RdS.new hMx rfl (T.cellsS_one _)
 have C:=C.no hMx.chg
 refine zCl rfl (closeC_calls (h1.no C) hM (by omega) hn (l:= [f.nm]) hr (by simp) (by simp)) ?_
 rintro _ wz hp
 obtain rfl:=hp.1
 refine ⟨_,rfl,?_⟩
 refine zN (zM ?_)
 exact zk_ret0 (.inl rfl) rfl (BPost.pre (hN1.chg.no C) hp)
end
theorem fld71 (w:World) (c0 c1 c2 c3 c4 c5 c6:Value):(Instr.field 80 (.agg #[c0,c1,c2,c3,c4,c5,c6]) 1).run Tryz.prog w= .ok c1 w:=by kernel_rfl
section
variable {w w' w0 w1 w2 : World} {b t : Nat} {q q' q1 : SQ} {N N' : List ND} {n m k : Nat} {R R' : List Nat} {f g : FE} {fr fr' : List FE} {sk sk' : Bool} {x : Value} {e : Ending}
theorem bstate_calls (h:IsB w b t q N (n::R) (f::fr) sk) (hf:fr.length≤900):Calls Tryz.prog 24 [.pointer (some ⟨b,0,none⟩)].toArray w fun e w'=>e= .returned (.int .i64 0)∧Chg w w' No:=by
 have hb0:=h.blk
 have hb:=hb0
 have hbt0:=h.st.site.blk
 have hnN:n<N.length:=h.st.zf.lt n (by simp)
 have hd:hdOf (N.getD n n0)=elemH f.nm f.al:=h.st.zf.1
 have hx:nodeOf N (n:Nat)=N.getD n n0:=if_pos ⟨by omega,by omega⟩
 have k2:(nodeOf N (n:Nat)).space=1:=by rw [hx];exact congrArg Hd.space hd
 refine zCz 27 Tryz.func24 ?_
 refine zz ?_
 refine zc_draw [] (fun w'=>Chg w w' No∧Blk w' b 64 [.pointer (some ⟨t,0,none⟩),.int .i64 0,.string ⟨#[]⟩,.bool sk]∧Blk w' t 74 [.pointer (some ⟨q.r.pd,0,none⟩),.pointer (some ⟨q.r.pm,0,none⟩),q.r.vrow,.bool false]) (.take 0 (.take 1 (.take 2 (.take 3 (.take 4 (.take 5 (.take 6 (.take 7 (.take 8 (.take 9 (.take 10 (.all1 11 (.all1 12 (.take 13 (.take 14 (.fin)))))))))))))))) (by rfl) (by kernel_rfl) (by kernel_rfl) (fun w1 hC1 _=>⟨?_,?_⟩)
 ·exact ⟨hC1,hb0.no hC1,hbt0.no hC1⟩
 have C:=hC1
 refine zz ?_
 refine zs_call rfl (want_L rfl) rfl (by decide) rfl (sTop_calls (h.no C).st (by simp only [List.length_cons];omega)) ?_
 rintro _ w2 ⟨rfl,hC⟩
 have C:=C.no hC
 refine ⟨_,rfl,⟨C,hb0.no C,hbt0.no C⟩,?_⟩
 refine zs_call rfl (want_L rfl) rfl (by decide) rfl (rNode_calls (h.no C).st.site.doc (n:Nat)) ?_
 rintro _ w5 ⟨va5,rfl,hA5,hC5⟩
 have C:=C.no hC5
 refine ⟨_,rfl,⟨C,hb0.no C,hbt0.no C⟩,?_⟩
 rw [k2]
 refine zRd rfl rfl (fun _ hS=>r_field rfl (fld71 _ _ _ _ _ _ _ _)) ?_
 refine zz ?_
 exact zk_ret1 (.inr rfl) rfl rfl ⟨rfl,C⟩
-- TAKE (printed by ggen5.py)
theorem take_tag (h:IsB w b t q N (n::R) (f::fr) sk) (hf:fr.length≤900) (k:Int) (hk:k=1∨k=2) (nm tx:List UInt8) {va:Value} {al:List At} (ha:AttrS w va al) {fr2:List FE} {sk2:Bool} {n2:Nat}
  (hhtml: ∀w',IsB w' b t q N (n::R) (f::fr) false→AttrS w' va al→Calls Tryz.prog 54 [.pointer (some ⟨b,0,none⟩),T.tokV k nm va tx].toArray w' (BPost w' b t q fr2 sk2 n2 (.tuple #[]))):
  Calls Tryz.prog 25 [.pointer (some ⟨b,0,none⟩),T.tokV k nm va tx].toArray w (BPost w b t q fr2 sk2 n2 (.tuple #[])):=by
 obtain ⟨A0,c0,rfl,_⟩:=ha.form
 have hnN:n<N.length:=h.st.zf.lt n (by simp)
 have hd:hdOf (N.getD n n0)=elemH f.nm f.al:=h.st.zf.1
 have hx:nodeOf N (n:Nat)=N.getD n n0:=if_pos ⟨by omega,by omega⟩
 have k2:(nodeOf N (n:Nat)).space=1:=by rw [hx];exact congrArg Hd.space hd
 unfold T.tokV at hhtml ⊢
 refine zCz 119 Tryz.func25 ?_
 refine zS (zR ?_)
 refine zBx rfl (fun w1 b3 hN1=> ?_)
 have hb30:Blk w1 b3 66 [.int .i64 k,.string (bs nm),.slice A0 al.length c0,.bool false,.string (bs tx)]:=hN1.blk
 have h1:=h.no hN1.chg
 have hb:=h1.blk
 refine zz ?_
 refine z_store (want_L rfl) rfl rfl rfl (by assumption) (by first|exact Nat.le_refl _|simp [Value.cells]) (by simp [Value.cells,Value.oneCell']) (fun w2 hU2=> ?_)
 obtain ⟨h2,hW2⟩:=h1.skW hU2
 have hb2:=h2.blk
 have hkp:=WrB.keep h1 hW2
 have hb32:=hkp.2 _ _ _ hb30 (by decide)
 have ha2:=(ha.no hN1.chg).keepB hkp
 have hbt2:=h2.st.site.blk
 have fin: ∀{w3:World} {x:Ending} {w4:World},Chg w2 w3 No→BPost w3 b t q fr2 sk2 n2 (.tuple #[]) x w4→BPost w b t q fr2 sk2 n2 (.tuple #[]) x w4:=fun hC hp=>BPost.preW ((WrB.of_no hN1.chg _ _ _).trans (hW2.trans (WrB.of_no hC _ _ _))) hp
 cases sk
 ·skip
  refine zz ?_
  refine zc_draw [] (fun w'=>Chg w2 w' No∧Blk w' b 64 [.pointer (some ⟨t,0,none⟩),.int .i64 0,.string ⟨#[]⟩,.bool false]∧Blk w' t 74 [.pointer (some ⟨q.r.pd,0,none⟩),.pointer (some ⟨q.r.pm,0,none⟩),q.r.vrow,.bool false]∧Blk w' b3 66 [.int .i64 k,.string (bs nm),.slice A0 al.length c0,.bool false,.string (bs tx)]) (.take 0 (.take 1 (.take 2 (.take 3 (.take 4 (.take 5 (.take 6 (.take 7 (.take 8 (.take 9 (.take 10 (.all1 11 (.all1 12 (.take 13 (.take 14 (.take 15 (.take 16 (.take 17 (.take 18 (.take 19 (.take 20 (.take 22 (.all1 21 (.all1 23 (.take 24 (.take 25 (.take 26 (.fin)))))))))))))))))))))))))))) (by rfl) (by kernel_rfl) (by kernel_rfl) (fun w3 hC3 _=>⟨?_,?_⟩)
  ·exact ⟨hC3,hb2.no hC3,hbt2.no hC3,hb32.no hC3⟩
  have C:=hC3
  refine zz ?_
  refine zs_call rfl (want_L rfl) rfl (by decide) rfl (sTop_calls (h2.no C).st (by simp only [List.length_cons];omega)) ?_
  rintro _ w4 ⟨rfl,hC⟩
  have C:=C.no hC
  refine ⟨_,rfl,⟨C,hb2.no C,hbt2.no C,hb32.no C⟩,?_⟩
  refine zs_call rfl (want_L rfl) rfl (by decide) rfl (rNode_calls (h2.no C).st.site.doc (n:Nat)) ?_
  rintro _ w5 ⟨va5,rfl,hA5,hC5⟩
  have C:=C.no hC5
  have hb3':=hb32.no C
  refine ⟨_,rfl,⟨C,hb2.no C,hbt2.no C,hb32.no C⟩,?_⟩
  rw [k2]
  refine zRd rfl rfl (fun _ hS=>r_field rfl (fld71 _ _ _ _ _ _ _ _)) ?_
  refine zz ?_
  refine zCl rfl (hhtml _ (h2.no C) (ha2.no C)) ?_
  rintro _ w6 hp
  obtain rfl:=hp.1
  refine ⟨_,rfl,?_⟩
  refine zN (zM ?_)
  exact zk_ret0 (.inl rfl) rfl (fin C hp)
 ·skip
  refine zz ?_
  refine zc_draw [] (fun w'=>Chg w2 w' No∧Blk w' b 64 [.pointer (some ⟨t,0,none⟩),.int .i64 0,.string ⟨#[]⟩,.bool false]∧Blk w' t 74 [.pointer (some ⟨q.r.pd,0,none⟩),.pointer (some ⟨q.r.pm,0,none⟩),q.r.vrow,.bool false]∧Blk w' b3 66 [.int .i64 k,.string (bs nm),.slice A0 al.length c0,.bool false,.string (bs tx)]) (.take 0 (.take 1 (.take 2 (.take 3 (.take 4 (.take 5 (.take 6 (.take 7 (.take 8 (.take 9 (.take 10 (.all1 11 (.all1 12 (.take 13 (.take 14 (.take 15 (.take 16 (.take 17 (.take 18 (.take 19 (.take 20 (.take 22 (.all1 21 (.all1 23 (.take 24 (.take 25 (.take 26 (.fin)))))))))))))))))))))))))))) (by rfl) (by kernel_rfl) (by kernel_rfl) (fun w3 hC3 _=>⟨?_,?_⟩)
  ·exact ⟨hC3,hb2.no hC3,hbt2.no hC3,hb32.no hC3⟩
  have C:=hC3
  refine zz ?_
  refine zs_call rfl (want_L rfl) rfl (by decide) rfl (sTop_calls (h2.no C).st (by simp only [List.length_cons];omega)) ?_
  rintro _ w4 ⟨rfl,hC⟩
  have C:=C.no hC
  refine ⟨_,rfl,⟨C,hb2.no C,hbt2.no C,hb32.no C⟩,?_⟩
  refine zs_call rfl (want_L rfl) rfl (by decide) rfl (rNode_calls (h2.no C).st.site.doc (n:Nat)) ?_
  rintro _ w5 ⟨va5,rfl,hA5,hC5⟩
  have C:=C.no hC5
  have hb3':=hb32.no C
  refine ⟨_,rfl,⟨C,hb2.no C,hbt2.no C,hb32.no C⟩,?_⟩
  rw [k2]
  refine zRd rfl rfl (fun _ hS=>r_field rfl (fld71 _ _ _ _ _ _ _ _)) ?_
  refine zz ?_
  refine zCl rfl (hhtml _ (h2.no C) (ha2.no C)) ?_
  rintro _ w6 hp
  obtain rfl:=hp.1
  refine ⟨_,rfl,?_⟩
  refine zN (zM ?_)
  exact zk_ret0 (.inl rfl) rfl (fin C hp)
theorem take_text (h:IsB w b t q N (n::R) (f::fr) sk) (hf:fr.length≤900) (v:List UInt8) (hv:v.length≤10000000) (h10:sk=true→T.beginsN v [10]=false) {fr2:List FE} {sk2:Bool} {n2:Nat}
  (hhtml: ∀w',IsB w' b t q N (n::R) (f::fr) false→AttrS w' T.nS []→Calls Tryz.prog 54 [.pointer (some ⟨b,0,none⟩),T.tokV 3 [] T.nS v].toArray w' (BPost w' b t q fr2 sk2 n2 (.tuple #[]))):
  Calls Tryz.prog 25 [.pointer (some ⟨b,0,none⟩),T.tokV 3 [] T.nS v].toArray w (BPost w b t q fr2 sk2 n2 (.tuple #[])):=by
 have hnN:n<N.length:=h.st.zf.lt n (by simp)
 have hd:hdOf (N.getD n n0)=elemH f.nm f.al:=h.st.zf.1
 have hx:nodeOf N (n:Nat)=N.getD n n0:=if_pos ⟨by omega,by omega⟩
 have k2:(nodeOf N (n:Nat)).space=1:=by rw [hx];exact congrArg Hd.space hd
 unfold T.tokV at hhtml ⊢
 refine zCz 119 Tryz.func25 ?_
 refine zS (zR ?_)
 refine zBx rfl (fun w1 b3 hN1=> ?_)
 have hb30:Blk w1 b3 66 [.int .i64 3,.string (bs []),.slice none 0 0,.bool false,.string (bs v)]:=hN1.blk
 have h1:=h.no hN1.chg
 have hb:=h1.blk
 refine zz ?_
 refine z_store (want_L rfl) rfl rfl rfl (by assumption) (by first|exact Nat.le_refl _|simp [Value.cells]) (by simp [Value.cells,Value.oneCell']) (fun w2 hU2=> ?_)
 obtain ⟨h2,hW2⟩:=h1.skW hU2
 have hb2:=h2.blk
 have hkp:=WrB.keep h1 hW2
 have hb32:=hkp.2 _ _ _ hb30 (by decide)
 have ha2:=AttrS.nS w2
 have hbt2:=h2.st.site.blk
 have fin: ∀{w3:World} {x:Ending} {w4:World},Chg w2 w3 No→BPost w3 b t q fr2 sk2 n2 (.tuple #[]) x w4→BPost w b t q fr2 sk2 n2 (.tuple #[]) x w4:=fun hC hp=>BPost.preW ((WrB.of_no hN1.chg _ _ _).trans (hW2.trans (WrB.of_no hC _ _ _))) hp
 cases sk
 ·skip
  refine zz ?_
  refine zc_draw [] (fun w'=>Chg w2 w' No∧Blk w' b 64 [.pointer (some ⟨t,0,none⟩),.int .i64 0,.string ⟨#[]⟩,.bool false]∧Blk w' t 74 [.pointer (some ⟨q.r.pd,0,none⟩),.pointer (some ⟨q.r.pm,0,none⟩),q.r.vrow,.bool false]∧Blk w' b3 66 [.int .i64 3,.string (bs []),.slice none 0 0,.bool false,.string (bs v)]) (.take 0 (.take 1 (.take 2 (.take 3 (.take 4 (.take 5 (.take 6 (.take 7 (.take 8 (.take 9 (.take 10 (.all1 11 (.all1 12 (.take 13 (.take 14 (.take 15 (.take 16 (.take 17 (.take 18 (.take 19 (.take 20 (.take 22 (.all1 21 (.all1 23 (.take 24 (.take 25 (.take 26 (.fin)))))))))))))))))))))))))))) (by rfl) (by kernel_rfl) (by kernel_rfl) (fun w3 hC3 _=>⟨?_,?_⟩)
  ·exact ⟨hC3,hb2.no hC3,hbt2.no hC3,hb32.no hC3⟩
  have C:=hC3
  refine zz ?_
  refine zs_call rfl (want_L rfl) rfl (by decide) rfl (sTop_calls (h2.no C).st (by simp only [List.length_cons];omega)) ?_
  rintro _ w4 ⟨rfl,hC⟩
  have C:=C.no hC
  refine ⟨_,rfl,⟨C,hb2.no C,hbt2.no C,hb32.no C⟩,?_⟩
  refine zs_call rfl (want_L rfl) rfl (by decide) rfl (rNode_calls (h2.no C).st.site.doc (n:Nat)) ?_
  rintro _ w5 ⟨va5,rfl,hA5,hC5⟩
  have C:=C.no hC5
  have hb3':=hb32.no C
  refine ⟨_,rfl,⟨C,hb2.no C,hbt2.no C,hb32.no C⟩,?_⟩
  rw [k2]
  refine zRd rfl rfl (fun _ hS=>r_field rfl (fld71 _ _ _ _ _ _ _ _)) ?_
  refine zz ?_
  refine zCl rfl (hhtml _ (h2.no C) (ha2.no C)) ?_
  rintro _ w6 hp
  obtain rfl:=hp.1
  refine ⟨_,rfl,?_⟩
  refine zN (zM ?_)
  exact zk_ret0 (.inl rfl) rfl (fin C hp)
 ·skip
  refine zz ?_
  refine zCp rfl (T.begins_calls v [10] (show v.length≤1000000000000 by omega) (by decide)) ?_
  rw [h10 rfl]
  refine zz ?_
  refine zc_draw [] (fun w'=>Chg w2 w' No∧Blk w' b 64 [.pointer (some ⟨t,0,none⟩),.int .i64 0,.string ⟨#[]⟩,.bool false]∧Blk w' t 74 [.pointer (some ⟨q.r.pd,0,none⟩),.pointer (some ⟨q.r.pm,0,none⟩),q.r.vrow,.bool false]∧Blk w' b3 66 [.int .i64 3,.string (bs []),.slice none 0 0,.bool false,.string (bs v)]) (.take 0 (.take 1 (.take 2 (.take 3 (.take 4 (.take 5 (.take 6 (.take 7 (.take 8 (.take 9 (.take 10 (.all1 11 (.all1 12 (.take 13 (.take 14 (.take 15 (.take 16 (.take 17 (.take 18 (.take 19 (.take 20 (.take 22 (.all1 21 (.all1 23 (.take 24 (.take 25 (.take 26 (.fin)))))))))))))))))))))))))))) (by rfl) (by kernel_rfl) (by kernel_rfl) (fun w3 hC3 _=>⟨?_,?_⟩)
  ·exact ⟨hC3,hb2.no hC3,hbt2.no hC3,hb32.no hC3⟩
  have C:=hC3
  refine zz ?_
  refine zs_call rfl (want_L rfl) rfl (by decide) rfl (sTop_calls (h2.no C).st (by simp only [List.length_cons];omega)) ?_
  rintro _ w4 ⟨rfl,hC⟩
  have C:=C.no hC
  refine ⟨_,rfl,⟨C,hb2.no C,hbt2.no C,hb32.no C⟩,?_⟩
  refine zs_call rfl (want_L rfl) rfl (by decide) rfl (rNode_calls (h2.no C).st.site.doc (n:Nat)) ?_
  rintro _ w5 ⟨va5,rfl,hA5,hC5⟩
  have C:=C.no hC5
  have hb3':=hb32.no C
  refine ⟨_,rfl,⟨C,hb2.no C,hbt2.no C,hb32.no C⟩,?_⟩
  rw [k2]
  refine zRd rfl rfl (fun _ hS=>r_field rfl (fld71 _ _ _ _ _ _ _ _)) ?_
  refine zz ?_
  refine zCl rfl (hhtml _ (h2.no C) (ha2.no C)) ?_
  rintro _ w6 hp
  obtain rfl:=hp.1
  refine ⟨_,rfl,?_⟩
  refine zN (zM ?_)
  exact zk_ret0 (.inl rfl) rfl (fin C hp)
theorem IsB.boxW (h:IsB w b t q N R fr sk) {b3:Nat} {cs:List Value} (hb3:Blk w b3 66 cs) (hC:Chg w w' (· =b3)):IsB w' b t q N R fr sk:=by
 refine ⟨h.blk.chg hC (fun he=>absurd (h.blk.inj (he▸hb3)).1 (by decide)),?_⟩
 have h:=h.st
 refine ⟨h.site.chg hC (fun k hk he=> ?_) (fun k cells hk he=>absurd (hk.inj (he▸hb3)).1 (by decide)),⟨h.mar.blk.chg hC (fun he=>absurd (h.mar.blk.inj (he▸hb3)).1 (by decide)),h.mar.row.chg hC (fun k hk he=>h.mar.row.ne hk hb3 (by decide) he)⟩,h.wf,h.zf,h.big⟩
 exact h.site.noT (ty:=66) (cs:=cs) (he▸hb3) (by decide) (by decide) (by decide) (by decide) (by decide) hk
theorem take_nl (h:IsB w b t q N (n::R) (f::fr) sk) (hf:fr.length≤900) (v:List UInt8) (hv:v.length≤10000000) (hsk:sk=true) {fr2:List FE} {sk2:Bool} {n2:Nat}
  (hhtml: ∀w',IsB w' b t q N (n::R) (f::fr) false→AttrS w' T.nS []→Calls Tryz.prog 54 [.pointer (some ⟨b,0,none⟩),T.tokV 3 [] T.nS v].toArray w' (BPost w' b t q fr2 sk2 n2 (.tuple #[]))):
  Calls Tryz.prog 25 [.pointer (some ⟨b,0,none⟩),T.tokV 3 [] T.nS (10::v)].toArray w (BPost w b t q fr2 sk2 n2 (.tuple #[])):=by
 have hnN:n<N.length:=h.st.zf.lt n (by simp)
 have hd:hdOf (N.getD n n0)=elemH f.nm f.al:=h.st.zf.1
 have hx:nodeOf N (n:Nat)=N.getD n n0:=if_pos ⟨by omega,by omega⟩
 have k2:(nodeOf N (n:Nat)).space=1:=by rw [hx];exact congrArg Hd.space hd
 unfold T.tokV at hhtml ⊢
 refine zCz 119 Tryz.func25 ?_
 refine zS (zR ?_)
 refine zBx rfl (fun w1 b3 hN1=> ?_)
 have hb30:Blk w1 b3 66 [.int .i64 3,.string (bs []),.slice none 0 0,.bool false,.string (bs (10::v))]:=hN1.blk
 have h1:=h.no hN1.chg
 have hb:=h1.blk
 refine zz ?_
 refine z_store (want_L rfl) rfl rfl rfl (by assumption) (by first|exact Nat.le_refl _|simp [Value.cells]) (by simp [Value.cells,Value.oneCell']) (fun w2 hU2=> ?_)
 obtain ⟨h2,hW2⟩:=h1.skW hU2
 have hb2:=h2.blk
 have hkp:=WrB.keep h1 hW2
 have hb32:=hkp.2 _ _ _ hb30 (by decide)
 have ha2:=AttrS.nS w2
 have hbt2:=h2.st.site.blk
 have fin: ∀{w3:World} {x:Ending} {w4:World},Chg w2 w3 No→BPost w3 b t q fr2 sk2 n2 (.tuple #[]) x w4→BPost w b t q fr2 sk2 n2 (.tuple #[]) x w4:=fun hC hp=>BPost.preW ((WrB.of_no hN1.chg _ _ _).trans (hW2.trans (WrB.of_no hC _ _ _))) hp
 subst hsk
 refine zz ?_
 refine zCp rfl (T.begins_calls (10::v) [10] (show (10::v).length≤1000000000000 by simp only [List.length_cons];omega) (by decide)) ?_
 rw [show T.beginsN (10::v) [10]=true by unfold T.beginsN;simp]
 refine zz ?_
 refine z_cutN 1 (v.length+1) (want_L rfl) (by decide) rfl rfl rfl rfl (by simp) (by omega) (by simp) ?_
 rw [show ((10::v).drop 1).take (v.length+1 - 1)=v by simp]
 refine zfa rfl ?_
 refine z_store (want_L rfl) rfl rfl rfl (by assumption) (by first|exact Nat.le_refl _|simp [Value.cells]) (by simp [Value.cells,Value.oneCell']) (fun w2' hU2'=> ?_)
 have hC2':Chg w2 w2' (· =b3):=hU2'.chg
 have hnb3: ¬ftB b t q b3:=h2.noT hb32 (by decide)
 have h2:IsB w2' b t q N (n::R) (f::fr) false:=h2.boxW hb32 hC2'
 have hb2:=h2.blk
 have hbt2:=h2.st.site.blk
 have hb32:Blk w2' b3 66 [.int .i64 3,.string (bs []),.slice none 0 0,.bool false,.string (bs v)]:=hU2'.blk
 have ha2:=AttrS.nS w2'
 have hC12:Chg w w2' (ftB b t q):=((hN1.chg.mono (fun _ _ h=>h.elim)).trans hW2.chg (fun k _ hk=>hk)).trans hC2' (fun k hk he=>by have:=hN1.at_;omega)
 have hW2':WrB w w2' b t q q:=⟨hC12,fun k hk=> .inl hk⟩
 have fin: ∀{w3:World} {x:Ending} {w4:World},Chg w2' w3 No→BPost w3 b t q fr2 sk2 n2 (.tuple #[]) x w4→BPost w b t q fr2 sk2 n2 (.tuple #[]) x w4:=fun hC hp=>BPost.preW (hW2'.trans (WrB.of_no hC _ _ _)) hp
 refine zz ?_
 refine zc_draw [] (fun w'=>Chg w2' w' No∧Blk w' b 64 [.pointer (some ⟨t,0,none⟩),.int .i64 0,.string ⟨#[]⟩,.bool false]∧Blk w' t 74 [.pointer (some ⟨q.r.pd,0,none⟩),.pointer (some ⟨q.r.pm,0,none⟩),q.r.vrow,.bool false]∧Blk w' b3 66 [.int .i64 3,.string (bs []),.slice none 0 0,.bool false,.string (bs v)]) (.take 0 (.take 1 (.take 2 (.take 3 (.take 4 (.take 5 (.take 6 (.take 7 (.take 8 (.take 9 (.take 10 (.all1 11 (.all1 12 (.take 13 (.take 14 (.take 15 (.take 16 (.take 17 (.take 18 (.take 19 (.take 20 (.take 22 (.all1 21 (.all1 23 (.take 24 (.take 25 (.take 26 (.fin)))))))))))))))))))))))))))) (by rfl) (by kernel_rfl) (by kernel_rfl) (fun w3 hC3 _=>⟨?_,?_⟩)
 ·exact ⟨hC3,hb2.no hC3,hbt2.no hC3,hb32.no hC3⟩
 have C:=hC3
 refine zz ?_
 refine zs_call rfl (want_L rfl) rfl (by decide) rfl (sTop_calls (h2.no C).st (by simp only [List.length_cons];omega)) ?_
 rintro _ w4 ⟨rfl,hC⟩
 have C:=C.no hC
 refine ⟨_,rfl,⟨C,hb2.no C,hbt2.no C,hb32.no C⟩,?_⟩
 refine zs_call rfl (want_L rfl) rfl (by decide) rfl (rNode_calls (h2.no C).st.site.doc (n:Nat)) ?_
 rintro _ w5 ⟨va5,rfl,hA5,hC5⟩
 have C:=C.no hC5
 have hb3':=hb32.no C
 refine ⟨_,rfl,⟨C,hb2.no C,hbt2.no C,hb32.no C⟩,?_⟩
 rw [k2]
 refine zRd rfl rfl (fun _ hS=>r_field rfl (fld71 _ _ _ _ _ _ _ _)) ?_
 refine zz ?_
 refine zCl rfl (hhtml _ (h2.no C) (ha2.no C)) ?_
 rintro _ w6 hp
 obtain rfl:=hp.1
 refine ⟨_,rfl,?_⟩
 refine zN (zM ?_)
 exact zk_ret0 (.inl rfl) rfl (fin C hp)
end
inductive Tok where
 |start (nm:List UInt8) (al:List T.At)
 |fin (nm:List UInt8)
 |text (v:List UInt8)
def Tok.txt:Tok→List UInt8
 | .start nm al=>60::(nm++(T.attrsS al++ [62]))
 | .fin nm=>60::47::(nm++ [62])
 | .text v=>T.safeN false v
abbrev St:=List FE×Bool
def tableW:List UInt8:= [116,97,98,108,101]
def tbodyW:List UInt8:= [116,98,111,100,121]
def trW:List UInt8:= [116,114]
def preW:List UInt8:= [112,114,101]
def plainG (fr:List FE):Prop:=lastN grN fr= []∨lastN grN fr∈cellN
def topN:List FE→List UInt8
 | []=> []
 |f::_=>f.nm
def stepT:Tok→St→St
 | .start nm al,s=>(startF nm al s.1,decide (nm=preW))
 | .fin _,s=>match s.1 with
  |f::g::fr=>(g.shut f::fr,false)
  |fr=>(fr,false)
 | .text v,s=>match s.1 with
  |f::fr=>(f.txt (if s.2=true∧v.head? =some 10 then v.tail else v)::fr,false)
  | []=>([],false)
def StepOk:Tok→St→Prop
 | .start nm al,s=>s.1≠ []∧s.1.length≤700∧T.NmOk nm∧T.AtOk al∧((nm∈startN∧plainG s.1∧CondS nm s.1)∨(2≤s.1.length∧((nm=tbodyW∧topN s.1=tableW)∨(nm=trW∧topN s.1=tbodyW)∨(nm∈cellN∧topN s.1=trW))))
 | .fin nm,s=>s.1.length≤700∧2≤s.1.length∧topN s.1=nm∧T.NmOk nm∧((nm∈endN∧plainG s.1)∨nm=tableW∨nm=tbodyW∨nm=trW∨nm∈cellN)
 | .text v,s=>s.1.length≤700∧v≠ []∧0∉v∧v.length≤10000000∧plainG s.1∧(∃f fr,s.1=f::fr∧ ∀x,f.done.lastH=some x→x.kind≠2)∧(s.2=true→v.head? =some 10→v.tail≠ [])
def BS (w:World) (b t:Nat) (q:SQ) (s:St) (n:Nat):Prop:= ∃N R,IsB w b t q N R s.1 s.2∧MOk q.M R s.1∧N.length≤n
def SP (w:World) (b t:Nat) (q:SQ) (s:St) (n:Nat) (e:Ending) (w':World):Prop:=e= .returned (.tuple #[])∧ ∃q',BS w' b t q' s n∧WrB w w' b t q q'
section
variable {w w' w0 w1 w2 : World} {b t : Nat} {q q' q1 : SQ} {N N' : List ND} {n m k : Nat} {R R' : List Nat} {f g : FE} {fr fr' : List FE} {sk sk' : Bool} {x : Value} {e : Ending}
theorem BPost.sp (h:BPost w b t q fr sk n (.tuple #[]) e w') (hn:n≤m):SP w b t q (fr,sk) m e w':=by
 obtain ⟨h1,q',N',R',h2,h3,h4,h5⟩:=h
 exact ⟨h1,q',⟨N',R',h2,h3,by omega⟩,h4⟩
theorem html_plain (h:IsB w b t q N R (f::fr) sk) (hf:fr.length≤900) (k:Int) (nm tx:List UInt8) (hp:Plain k nm) {va:Value} {al:List At} (ha:AttrS w va al) {fr2:List FE} {sk2:Bool} {n2:Nat} (hgr:plainG (f::fr))
  (hbody: ∀w',Chg w w' No→Calls Tryz.prog 96 [.pointer (some ⟨b,0,none⟩),T.tokV k nm va tx].toArray w' (BPost w' b t q fr2 sk2 n2 (.tuple #[]))):
  Calls Tryz.prog 54 [.pointer (some ⟨b,0,none⟩),T.tokV k nm va tx].toArray w (BPost w b t q fr2 sk2 n2 (.tuple #[])):=by
 have hcell: ∀w',Chg w w' No→Calls Tryz.prog 91 [.pointer (some ⟨b,0,none⟩),T.tokV k nm va tx].toArray w' (BPost w' b t q fr2 sk2 n2 (.tuple #[])):=fun w1 hC=>cell_of (h.no hC) hf k nm tx hp (ha.no hC) (fun w2 hC2=>hbody w2 (hC.no hC2))
 rcases hgr with h1|h1
 ·exact html_body h hf k nm tx ha h1 hbody
 ·simp only [cellN,List.mem_cons,List.not_mem_nil,or_false] at h1
  rcases h1 with h1|h1
  ·exact html_td h hf k nm tx ha h1 hcell
  ·exact html_th h hf k nm tx ha h1 hcell
theorem lastN_top (h:f.nm∈grN):lastN grN (f::g::fr)=f.nm:=if_pos h
theorem IsB.two (h:IsB w b t q N R (f::g::fr) sk): ∃n m R',R=n::m::R':=by
 have:=h.st.len.1
 match R,this with
 |n::m::R',_=>exact ⟨n,m,R',rfl⟩
theorem IsB.one (h:IsB w b t q N R (f::fr) sk): ∃n R',R=n::R':=by
 have:=h.st.len.1
 match R,this with
 |n::R',_=>exact ⟨n,R',rfl⟩
theorem plain_start {nm:List UInt8} (h:nm∈startN):Plain 1 nm:=⟨fun _=>(show∀a∈startN,a∉B.wd Y2 by decide+kernel) nm h,fun h=>absurd h (by decide),fun h=>absurd h (by decide),fun h=>absurd h (by decide)⟩
theorem plain_end {nm:List UInt8} (h:nm∈endN):Plain 2 nm:=⟨fun h=>absurd h (by decide),fun _=>(show∀a∈endN,a∉B.wd Y1 by decide+kernel) nm h,fun _=>(show∀a∈endN,a∉B.wd Y3 by decide+kernel) nm h,fun _=>(show∀a∈endN,a∉B.wd Y4 by decide+kernel) nm h⟩
theorem plain_text (nm:List UInt8):Plain 3 nm:=⟨fun h=>absurd h (by decide),fun h=>absurd h (by decide),fun h=>absurd h (by decide),fun h=>absurd h (by decide)⟩
theorem startF_open {nm:List UInt8} {al:List T.At} (h:nm∉leafN):startF nm al (f::fr)=⟨nm,al,.nil⟩::f::fr:=if_neg h
theorem take_start {s:St} {nm:List UInt8} {al:List T.At} (h:BS w b t q s n) (ho:StepOk (.start nm al) s) (hn:n≤1900000) {va:Value} (ha:AttrS w va (encT al)):
  Calls Tryz.prog 25 [.pointer (some ⟨b,0,none⟩),T.tokV 1 nm va []].toArray w (SP w b t q (stepT (.start nm al) s) (n+1)):=by
 obtain ⟨fr0,sk⟩:=s
 obtain ⟨N,R,hB,hM,hN⟩:=h
 obtain ⟨hne,hl,hnm,hat,hc⟩:=ho
 dsimp only at*
 cases fr0 with
 |nil=>exact absurd rfl hne
 |cons f fr=>
 have hal:al.length≤1000000:=by have:=hat.ln;omega
 simp only [List.length_cons] at hl
 have fin:Calls Tryz.prog 25 [.pointer (some ⟨b,0,none⟩),T.tokV 1 nm va []].toArray w (BPost w b t q (startF nm al (f::fr)) (decide (nm=preW)) (N.length+1) (.tuple #[]))→Calls Tryz.prog 25 [.pointer (some ⟨b,0,none⟩),T.tokV 1 nm va []].toArray w (SP w b t q (startF nm al (f::fr),decide (nm=preW)) (n+1)):=fun hh=>hh.mono fun e w' hp=>hp.sp (by omega)
 refine fin ?_
 rcases hc with ⟨hs,hg,hcs⟩|⟨h2,hc⟩
 ·obtain ⟨n1,R1,rfl⟩:=hB.one
  refine take_tag hB (by omega) 1 (.inl rfl) nm [] ha fun w' hB' ha'=> ?_
  refine html_plain hB' (by omega) 1 nm [] (plain_start hs) ha' hg fun w2 hC2=> ?_
  exact body_start (hB'.no hC2) hM (by omega) (by omega) nm hs al (ha'.no hC2) hal hcs
 ·cases fr with
  |nil=>simp at h2
  |cons g fr=>
  simp only [List.length_cons] at hl
  obtain ⟨n1,m1,R1,rfl⟩:=hB.two
  refine take_tag hB (by simp only [List.length_cons];omega) 1 (.inl rfl) nm [] ha fun w' hB' ha'=> ?_
  have htop:topN (f::g::fr)=f.nm:=rfl
  rw [htop] at hc
  rcases hc with ⟨rfl,h1⟩|⟨rfl,h1⟩|⟨hcn,h1⟩
  ·have e1:startF tbodyW al (f::g::fr)=⟨tbodyW,al,.nil⟩::f::g::fr:=startF_open (by decide)
   rw [e1,decide_eq_false (show tbodyW≠preW by decide)]
   refine html_table hB' (by simp only [List.length_cons];omega) 1 tbodyW [] ha' (by rw [lastN_top (by rw [h1];decide),h1];rfl) fun w2 hC2=> ?_
   exact table_start (hB'.no hC2) hM (by omega) (by omega) h1 al (ha'.no hC2) hal
  ·have e1:startF trW al (f::g::fr)=⟨trW,al,.nil⟩::f::g::fr:=startF_open (by decide)
   rw [e1,decide_eq_false (show trW≠preW by decide)]
   refine html_tbody hB' (by simp only [List.length_cons];omega) 1 trW [] ha' (by rw [lastN_top (by rw [h1];decide),h1];rfl) fun w2 hC2=> ?_
   exact rows_start (hB'.no hC2) hM (by omega) (by omega) h1 al (ha'.no hC2) hal
  ·have e1:startF nm al (f::g::fr)=⟨nm,al,.nil⟩::f::g::fr:=startF_open ((show∀a∈cellN,a∉leafN by decide) nm hcn)
   rw [e1,decide_eq_false ((show∀a∈cellN,a≠preW by decide) nm hcn)]
   refine html_tr hB' (by simp only [List.length_cons];omega) 1 nm [] ha' (by rw [lastN_top (by rw [h1];decide),h1];rfl) fun w2 hC2=> ?_
   exact row_start (hB'.no hC2) hM (by omega) (by omega) h1 nm hcn al (ha'.no hC2) hal
theorem take_fin {s:St} {nm:List UInt8} (h:BS w b t q s n) (ho:StepOk (.fin nm) s):
  Calls Tryz.prog 25 [.pointer (some ⟨b,0,none⟩),T.tokV 2 nm T.nS []].toArray w (SP w b t q (stepT (.fin nm) s) (n+1)):=by
 obtain ⟨fr0,sk⟩:=s
 obtain ⟨N,R,hB,hM,hN⟩:=h
 obtain ⟨hl,h2,htop,hnm,hc⟩:=ho
 dsimp only at*
 match fr0,h2 with
 |f::g::fr,_=>
 simp only [List.length_cons] at hl
 obtain ⟨n1,m1,R1,rfl⟩:=hB.two
 have htop:f.nm=nm:=htop
 subst htop
 have fin:Calls Tryz.prog 25 [.pointer (some ⟨b,0,none⟩),T.tokV 2 f.nm T.nS []].toArray w (BPost w b t q (g.shut f::fr) false N.length (.tuple #[]))→Calls Tryz.prog 25 [.pointer (some ⟨b,0,none⟩),T.tokV 2 f.nm T.nS []].toArray w (SP w b t q (g.shut f::fr,false) (n+1)):=fun hh=>hh.mono fun e w' hp=>hp.sp (by omega)
 refine fin ?_
 refine take_tag hB (by simp only [List.length_cons];omega) 2 (.inr rfl) f.nm [] (AttrS.nS w) fun w' hB' ha'=> ?_
 rcases hc with ⟨hs,hg⟩|h1|h1|h1|h1
 ·refine html_plain hB' (by simp only [List.length_cons];omega) 2 f.nm [] (plain_end hs) ha' hg fun w2 hC2=> ?_
  exact body_end (hB'.no hC2) hM (by omega) hs
 ·refine html_table hB' (by simp only [List.length_cons];omega) 2 f.nm [] ha' (by rw [lastN_top (by rw [h1];decide),h1];rfl) fun w2 hC2=> ?_
  have:=table_end (hB'.no hC2) hM (by omega) h1
  rw [h1];exact this
 ·refine html_tbody hB' (by simp only [List.length_cons];omega) 2 f.nm [] ha' (by rw [lastN_top (by rw [h1];decide),h1];rfl) fun w2 hC2=> ?_
  have:=rows_end (hB'.no hC2) hM (by omega) h1
  rw [h1];exact this
 ·refine html_tr hB' (by simp only [List.length_cons];omega) 2 f.nm [] ha' (by rw [lastN_top (by rw [h1];decide),h1];rfl) fun w2 hC2=> ?_
  have:=row_end (hB'.no hC2) hM (by omega) h1
  rw [h1];exact this
 ·have hgr:f.nm∈grN:=(show∀a∈cellN,a∈grN by decide) _ h1
  have h3:=h1
  simp only [cellN,List.mem_cons,List.not_mem_nil,or_false] at h3
  rcases h3 with h3|h3
  ·refine html_td hB' (by simp only [List.length_cons];omega) 2 f.nm [] ha' (by rw [lastN_top hgr,h3]) fun w2 hC2=> ?_
   exact cell_end (hB'.no hC2) hM (by omega) h1
  ·refine html_th hB' (by simp only [List.length_cons];omega) 2 f.nm [] ha' (by rw [lastN_top hgr,h3]) fun w2 hC2=> ?_
   exact cell_end (hB'.no hC2) hM (by omega) h1
theorem take_txt {s:St} {v:List UInt8} (h:BS w b t q s n) (ho:StepOk (.text v) s) (hn:n≤1900000):
  Calls Tryz.prog 25 [.pointer (some ⟨b,0,none⟩),T.tokV 3 [] T.nS v].toArray w (SP w b t q (stepT (.text v) s) (n+1)):=by
 obtain ⟨fr0,sk⟩:=s
 obtain ⟨N,R,hB,hM,hN⟩:=h
 obtain ⟨hl,hv,h0,hvl,hg,⟨f,fr,hfr,hlast⟩,hsk⟩:=ho
 dsimp only at*
 subst hfr
 simp only [List.length_cons] at hl
 obtain ⟨n1,R1,rfl⟩:=hB.one
 have body: ∀(v2:List UInt8),v2≠ []→0∉v2→v2.length≤10000000→ ∀w',IsB w' b t q N (n1::R1) (f::fr) false→AttrS w' T.nS []→Calls Tryz.prog 54 [.pointer (some ⟨b,0,none⟩),T.tokV 3 [] T.nS v2].toArray w' (BPost w' b t q (f.txt v2::fr) false (N.length+1) (.tuple #[])):=fun v2 g1 g2 g3 w' hB' ha'=>
  html_plain hB' (by omega) 3 [] v2 (plain_text []) ha' hg fun w2 hC2=>body_text (hB'.no hC2) hM (by omega) (by omega) v2 g1 g2 g3 hlast
 have key:Calls Tryz.prog 25 [.pointer (some ⟨b,0,none⟩),T.tokV 3 [] T.nS v].toArray w (BPost w b t q (f.txt (if sk=true∧v.head? =some 10 then v.tail else v)::fr) false (N.length+1) (.tuple #[])):=by
  by_cases hc:sk=true∧v.head? =some 10
  ·rw [if_pos hc]
   obtain ⟨v',rfl⟩: ∃v',v=10::v':=by
    cases v with
    |nil=>exact absurd rfl hv
    |cons c r=>have:=hc.2;simp at this;exact ⟨r,by rw [this]⟩
   have h2:=hsk hc.1 hc.2
   exact take_nl hB (by omega) v' (by simp at hvl;omega) hc.1 (body v' h2 (fun hh=>h0 (List.mem_cons_of_mem _ hh)) (by simp at hvl;omega))
  ·rw [if_neg hc]
   refine take_text hB (by omega) v hvl (fun h1=> ?_) (body v hv h0 hvl)
   unfold T.beginsN
   refine decide_eq_false fun he=>hc ⟨h1,?_⟩
   cases v with
   |nil=>exact absurd rfl hv
   |cons c r=>simp at he;rw [he];rfl
 exact key.mono fun e w' hp=>hp.sp (by omega)
end
theorem alikeD_calls {w:World} {v1 v2:Value} {l1 l2:List At} (h1:AttrS w v1 l1) (h2:AttrS w v2 l2) (hl1:l1.length≤10000000) (hl2:l2.length≤10000000):
  Calls Tryz.prog 56 [v1,v2].toArray w fun e w'=>e= .returned (.bool (decide (l1=l2)))∧Chg w w' No:=by
 obtain ⟨A1,c1,hv1,hc1⟩:=h1.form
 obtain ⟨A2,c2,hv2,hc2⟩:=h2.form
 subst hv1;subst hv2
 refine zCz 26 Tryz.func56 ?_
 refine zz ?_
 refine z_cmp (want_L rfl) (by decide) rfl rfl rfl (fun hc=> ?_) (fun hc=> ?_)
 ·refine zz ?_
  refine zk_ret1 (.inr rfl) rfl rfl ⟨?_,Chg.refl _ _⟩
  have: ¬l1=l2:=fun h=>by subst h;omega
  rw [decide_eq_false this]
 ·have hll:l1.length=l2.length:=by omega
  refine zz ?_
  refine zc_loopW (ι:=Nat) (fun k u=> [(0,.slice A1 l1.length c1),(1,.slice A2 l2.length c2),(5,.int .i64 k)])
   (fun k u=>k≤l1.length∧Chg w u No∧l1.take k=l2.take k) (fun k u=>l1.length - k) 0 ⟨Nat.zero_le _,Chg.refl _ _,rfl⟩ ?_ ?_
  ·exact ⟨rfl,rfl,rfl,trivial⟩
  rintro k w2 ⟨hk,hC,hb⟩
  by_cases hlt:k<l1.length
  ·obtain ⟨b,o,c',hv,g0,g1⟩:=(h1.no hC).at_ k hlt
   obtain ⟨b',o',c'',hv',g0',g1'⟩:=(h2.no hC).at_ k (by omega)
   cases hv;cases hv'
   refine zz ?_
   refine zc_draw [] (fun w'=>Chg w2 w' No) (.take 0 (.take 1 (.take 2 (.take 3 (.take 4 (.take 5 (.take 6 (.take 7 (.take 8 (.fin)))))))))) (by rfl) (by kernel_rfl) (by kernel_rfl) (fun w1 hC1 hH1=>⟨?_,?_⟩)
   ·exact hC1
   refine zz ?_
   refine zRd rfl rfl (fun _ hS=>r_loadA (by rfl) rfl (agg2 (cell_no hS g0) (cell_no hS g1) (by omega))) ?_
   refine zz ?_
   refine zRd rfl rfl (fun _ hS=>r_loadA (by rfl) rfl (agg2 (cell_no hS g0') (cell_no hS g1') (by omega))) ?_
   refine zRd rfl rfl (fun _ hS=>r_neA rfl rfl (by kernel_rfl) (fun d=>eq_attr d)) ?_
   have hC2:=hC.no hC1
   cases hq:(decide ((l1.getD k at0).1=(l2.getD k at0).1) && (decide ((l1.getD k at0).2=(l2.getD k at0).2) && true))
   ·refine zz ?_
    refine zk_ret1 (.inr rfl) rfl rfl ⟨?_,hC2⟩
    have: ¬l1=l2:=fun h=>by subst h;simp at hq
    rw [decide_eq_false this]
   ·refine zz ?_
    refine zk_loopW (k+1) ⟨by omega,hC2,?_⟩ (by omega) ⟨rfl,rfl,get_int rfl (by omega),trivial⟩
    simp only [Bool.and_true,Bool.and_eq_true,decide_eq_true_eq] at hq
    rw [take_getD at0 hlt,take_getD at0 (by omega),hb,Prod.ext hq.1 hq.2]
  ·obtain rfl:k=l1.length:=by omega
   refine zz ?_
   refine zk_ret1 (.inr rfl) rfl rfl ⟨?_,hC⟩
   rw [List.take_length,hll,List.take_length] at hb
   rw [decide_eq_true hb]
theorem oneD_calls {w:World} {x y:Hd} {A A' K K':Value} {k k':NT} (hA:AttrS w A x.attrs) (hA':AttrS w A' y.attrs) (hK:TreeAt w K k) (hK':TreeAt w K' k') (hal:x.attrs.length≤10000000) (hal':y.attrs.length≤10000000):
  Calls Tryz.prog 30 [.agg #[.int .i64 x.kind,.int .i64 x.space,.string x.name,A,.string x.text,.int .i64 x.fr,K],.agg #[.int .i64 y.kind,.int .i64 y.space,.string y.name,A',.string y.text,.int .i64 y.fr,K']].toArray w fun e w'=> ∃q,e= .returned (.bool q)∧(q=true↔x=y)∧Chg w w' No:=by
 obtain ⟨A2,c2,rfl,_⟩:=hA.form
 obtain ⟨A3,c3,rfl,_⟩:=hK.form
 obtain ⟨A4,c4,rfl,_⟩:=hA'.form
 obtain ⟨A5,c5,rfl,_⟩:=hK'.form
 refine zCz 45 Tryz.func30 ?_
 refine zS (zR ?_)
 refine zBx rfl (fun w1 b1 hN1=> ?_)
 have hb1:Blk w1 b1 80 [.int .i64 x.kind,.int .i64 x.space,.string x.name,.slice A2 x.attrs.length c2,.string x.text,.int .i64 x.fr,.slice A3 k.len c3]:=hN1.blk
 refine zBx rfl (fun w2 b2 hN2=> ?_)
 have hb2:Blk w2 b2 80 [.int .i64 y.kind,.int .i64 y.space,.string y.name,.slice A4 y.attrs.length c4,.string y.text,.int .i64 y.fr,.slice A5 k'.len c5]:=hN2.blk
 have hb1:=hb1.no hN2.chg
 have hC:=hN1.chg.no hN2.chg
 by_cases h1:x.kind=y.kind
 ·by_cases h2:x.space=y.space
  ·refine zz ?_
   refine z_eqS (want_L rfl) (by decide) rfl rfl (fun hc=> ?_) (fun hc=> ?_)
   ·refine zz ?_
    refine zCr rfl (alikeD_calls (hA.no hC) (hA'.no hC) hal hal') fun w3 hC3=> ?_
    have hb1:=hb1.no hC3
    have hb2:=hb2.no hC3
    by_cases h4:x.attrs=y.attrs
    ·rw [decide_eq_true h4]
     refine zz ?_
     refine z_eqS (want_L rfl) (by decide) rfl rfl (fun hc=> ?_) (fun hc=> ?_)
     ·by_cases h6:x.fr=y.fr
      ·refine zz ?_
       exact zk_ret1 (.inr rfl) rfl rfl ⟨true,rfl,iff_of_true rfl (Hd.ext' h1 h2 (by assumption) h4 (by assumption) h6),hC.no hC3⟩
      ·refine zz ?_
       exact zk_ret1 (.inr rfl) rfl rfl ⟨false,rfl,no_ (fun h=>h6 (by rw [h])),hC.no hC3⟩
     ·have hn: ¬x.text=y.text:=by assumption
      refine zz ?_
      exact zk_ret1 (.inr rfl) rfl rfl ⟨false,rfl,no_ (fun h=>hn (by rw [h])),hC.no hC3⟩
    ·rw [decide_eq_false h4]
     refine zz ?_
     exact zk_ret1 (.inr rfl) rfl rfl ⟨false,rfl,no_ (fun h=>h4 (by rw [h])),hC.no hC3⟩
   ·have hn: ¬x.name=y.name:=by assumption
    refine zz ?_
    exact zk_ret1 (.inr rfl) rfl rfl ⟨false,rfl,no_ (fun h=>hn (by rw [h])),hC⟩
  ·refine zz ?_
   exact zk_ret1 (.inr rfl) rfl rfl ⟨false,rfl,no_ (fun h=>h2 (by rw [h])),hC⟩
 ·refine zz ?_
  exact zk_ret1 (.inr rfl) rfl rfl ⟨false,rfl,no_ (fun h=>h1 (by rw [h])),hC⟩
theorem sameR_calls: ∀(f:Nat) {w:World} {v1 v2:Value} {t1 t2:NT},TreeAt w v1 t1→TreeAt w v2 t2→FewT t1→FewT t2→t1.size≤f→f≤10000000→
  Calls Tryz.prog 11 [v1,v2].toArray w fun e w'=> ∃q,e= .returned (.bool q)∧(q=true↔t1=t2)∧Chg w w' No:=by
 intro f
 induction f with
 |zero=>
  intro w v1 v2 t1 t2 g1 g2 hf1 hf2 hs _
  obtain ⟨A1,c1,rfl,hc1⟩:=g1.form
  obtain ⟨A2,c2,rfl,hc2⟩:=g2.form
  cases t1 with
  |cons x k r=>simp [NT.size] at hs
  |nil=>
   refine zCz 41 Tryz.func11 ?_
   by_cases h0:t2.len=0
   ·have h0':=len0 h0
    subst h0'
    refine zz ?_
    refine zc_loopW (ι:=Nat) (fun i u=> [(0,.slice A1 0 c1),(1,.slice A2 0 c2),(5,.int .i64 0)]) (fun i u=>u=w) (fun i u=>0) 0 rfl ?_ ?_
    ·exact ⟨rfl,rfl,rfl,trivial⟩
    rintro i u rfl
    refine zz ?_
    exact zk_ret1 (.inr rfl) rfl rfl ⟨true,rfl,iff_of_true rfl rfl,Chg.refl _ _⟩
   ·have hl:NT.nil.len=0:=rfl
    rw [hl]
    refine zz ?_
    exact zk_ret1 (.inr rfl) rfl rfl ⟨false,rfl,no_ (fun h=>h0 (by rw [←h];rfl)),Chg.refl _ _⟩
 |succ f ih=>
  intro w v1 v2 t1 t2 g1 g2 hf1 hf2 hs hf
  obtain ⟨A1,c1,hv1,hc1⟩:=g1.form
  obtain ⟨A2,c2,hv2,hc2⟩:=g2.form
  have hls:=t1.len_size
  subst hv1;subst hv2
  refine zCz 41 Tryz.func11 ?_
  by_cases hll:t1.len=t2.len
  ·refine zz ?_
   refine zc_loopW (ι:=Nat) (fun i u=> [(0,.slice A1 t1.len c1),(1,.slice A2 t2.len c2),(5,.int .i64 i)])
    (fun i u=>i≤t1.len∧(t1.dropN i=t2.dropN i↔t1=t2)∧Chg w u No) (fun i u=>t1.len - i) 0 ⟨Nat.zero_le _,Iff.rfl,Chg.refl _ _⟩ ?_ ?_
   ·exact ⟨rfl,rfl,rfl,trivial⟩
   rintro i u ⟨hi,hd,hC⟩
   by_cases hlt:i<t1.len
   ·obtain ⟨b,o,c',x,k,r,A',K,e1,hv,hN,hA,hK⟩:=(g1.no hC).at_ i hlt
    obtain ⟨b',o',c'',y,k',r',A'',K',e2,hv',hN',hA',hK'⟩:=(g2.no hC).at_ i (by omega)
    cases hv;cases hv'
    have hsz:=t1.drop_size i
    rw [e1] at hsz
    simp only [NT.size] at hsz
    obtain ⟨hxa,hfk,hfr⟩:=hf1.drop t1 i x k r e1
    obtain ⟨hya,hfk',hfr'⟩:=hf2.drop t2 i y k' r' e2
    have hnx: ¬(x=y∧k=k')→ ¬t1=t2:=fun hn h=>by
     rw [←hd,e1,e2] at h
     simp only [NT.cons.injEq] at h
     exact hn ⟨h.1,h.2.1⟩
    refine zz ?_
    refine zc_draw [] (fun w'=>Chg u w' No) (.take 0 (.take 1 (.take 2 (.take 3 (.take 4 (.take 5 (.take 6 (.take 7 (.all1 8 (.take 9 (.take 10 (.take 11 (.take 12 (.take 13 (.take 14 (.take 15 (.take 16 (.take 17 (.take 18 (.take 19 (.take 20 (.all1 21 (.take 22 (.take 23 (.fin))))))))))))))))))))))))) (by rfl) (by kernel_rfl) (by kernel_rfl) (fun w1 hC1 hH1=>⟨?_,?_⟩)
    ·exact hC1
    refine zz ?_
    refine zRd rfl rfl (fun _ hS=>r_loadA (by rfl) rfl ((hN.no hS).agg (by omega))) ?_
    refine zz ?_
    refine zRd rfl rfl (fun _ hS=>r_loadA (by rfl) rfl ((hN'.no hS).agg (by omega))) ?_
    refine zs_call rfl (want_L rfl) rfl (by decide) rfl (oneD_calls (hA.no hC1) (hA'.no hC1) (hK.no hC1) (hK'.no hC1) hxa hya) ?_
    rintro _ u2 ⟨q1,rfl,hq1,hC2⟩
    have hC2:=hC1.no hC2
    refine ⟨_,rfl,hC2,?_⟩
    cases q1
    ·refine zz ?_
     exact zk_ret1 (.inr rfl) rfl rfl ⟨false,rfl,no_ (hnx (fun h=>absurd (hq1.2 h.1) Bool.false_ne_true)),hC.no hC2⟩
    refine zz ?_
    refine zRd rfl rfl (fun _ hS=>r_load1 rfl (cell_at (hN.no hS).c6 (by omega))) ?_
    refine zz ?_
    refine zRd rfl rfl (fun _ hS=>r_load1 rfl (cell_at (hN'.no hS).c6 (by omega))) ?_
    refine zs_call rfl (want_L rfl) rfl (by decide) rfl (ih (hK.no hC2) (hK'.no hC2) hfk hfk' (by omega) (by omega)) ?_
    rintro _ u3 ⟨q2,rfl,hq2,hC3⟩
    have hC3:=hC2.no hC3
    refine ⟨_,rfl,hC3,?_⟩
    cases q2
    ·refine zz ?_
     exact zk_ret1 (.inr rfl) rfl rfl ⟨false,rfl,no_ (hnx (fun h=>absurd (hq2.2 h.2) Bool.false_ne_true)),hC.no hC3⟩
    ·refine zz ?_
     exact zk_loopW (i+1) ⟨by omega,drop_iff hd e1 e2 (hq1.1 rfl) (hq2.1 rfl),hC.no hC3⟩ (by omega) ⟨rfl,rfl,get_int rfl (by simp),trivial⟩
   ·obtain rfl:i=t1.len:=by omega
    rw [t1.drop_len,hll,t2.drop_len] at hd
    refine zz ?_
    exact zk_ret1 (.inr rfl) rfl rfl ⟨true,rfl,iff_of_true rfl (hd.1 rfl),hC⟩
  ·refine zz ?_
   exact zk_ret1 (.inr rfl) rfl rfl ⟨false,rfl,no_ (fun h=>hll (by rw [h])),Chg.refl _ _⟩
def Tok.k:Tok→Int
 | .start _ _=>1
 | .fin _=>2
 | .text _=>3
def Tok.nm:Tok→List UInt8
 | .start nm _=>nm
 | .fin nm=>nm
 | .text _=> []
def Tok.tx:Tok→List UInt8
 | .text v=>v
 |_=> []
def Tok.al:Tok→List T.At
 | .start _ al=>al
 |_=> []
def Tok.isText:Tok→Bool
 | .text _=>true
 |_=>false
def flatT (ts:List Tok):List UInt8:=ts.flatMap Tok.txt
def nextTag:List Tok→Prop
 | []=>True
 |t::_=>t.isText=false
def RunOk:List Tok→St→Prop
 | [],_=>True
 |t::ts,s=>StepOk t s∧(t.isText=true→nextTag ts)∧RunOk ts (stepT t s)
def runT:List Tok→St→St
 | [],s=>s
 |t::ts,s=>runT ts (stepT t s)
theorem flat_head (ts:List Tok) (h:nextTag ts):(flatT ts).head? =none∨(flatT ts).head? =some 60:=by
 cases ts with
 |nil=>exact .inl rfl
 |cons t r=>
  cases t with
  |start nm al=>exact .inr rfl
  |fin nm=>exact .inr rfl
  |text v=>cases h
theorem Tok.k5 (t:Tok):t.k=1∨t.k=2∨t.k=3:=by cases t<;>simp [Tok.k]
theorem nextTok_calls {w:World} (s r:List UInt8) (p:Nat) (tok:Tok) {st:St} (ho:StepOk tok st) (hs:s.drop p=tok.txt++r) (hr:tok.isText=true→r.head? =none∨r.head? =some 60) (hl:s.length≤1000000000):
  Calls Tryz.prog 23 [.string (bs s),.int .i64 (p:Nat),.int .i64 0,.string (bs [])].toArray w fun e w'=>(∃A m c,e= .returned (.tuple #[T.tokV tok.k tok.nm (.slice A m c) tok.tx,.int .i64 ((p+tok.txt.length:Nat):Int)])∧AttrS w' (.slice A m c) (encT tok.al)∧(tok.k≠1→Value.slice A m c=T.nS))∧Chg w w' No:=by
 cases tok with
 |start nm al=>
  obtain ⟨_,_,hn,ha,_⟩:=ho
  have hs':s.drop p=60::(nm++(T.attrsS al++62::r)):=by rw [hs];simp [Tok.txt]
  refine (T.nextS_calls s nm r al p hs' hn ha hl).mono ?_
  rintro e w' ⟨⟨A,m,c,rfl,hA⟩,hC⟩
  refine ⟨⟨A,m,c,?_,?_,fun h=>absurd rfl h⟩,hC⟩
  ·have:p+nm.length+(T.attrsS al).length+2=p+(Tok.start nm al).txt.length:=by simp [Tok.txt];omega
   rw [this];rfl
  ·have:=hA.1.rd
   unfold AttrS
   rw [encT_len,encT_enc]
   exact this
 |fin nm=>
  obtain ⟨_,_,_,hn,_⟩:=ho
  have hs':s.drop p=60::47::(nm++62::r):=by rw [hs];simp [Tok.txt]
  refine (T.nextE_calls s nm r p hs' hn hl).mono ?_
  rintro e w' ⟨rfl,hC⟩
  refine ⟨⟨none,0,0,?_,AttrS.nil _,fun _=>rfl⟩,hC⟩
  have:p+nm.length+3=p+(Tok.fin nm).txt.length:=by simp [Tok.txt];omega
  rw [this];rfl
 |text v=>
  obtain ⟨_,hv,_,hvl,_⟩:=ho
  refine (T.nextT_calls s v r p hs hv (hr rfl) hl (by omega)).mono ?_
  rintro e w' ⟨rfl,hC⟩
  exact ⟨⟨none,0,0,rfl,AttrS.nil _,fun _=>rfl⟩,hC⟩
theorem takeTok_calls {w:World} {b t n:Nat} {q:SQ} {st:St} (tok:Tok) (h:BS w b t q st n) (ho:StepOk tok st) (hn:n≤1900000) {A:Option Addr} {m c:Nat} (ha:AttrS w (.slice A m c) (encT tok.al)) (hv:tok.k≠1→Value.slice A m c=T.nS):
  Calls Tryz.prog 25 [.pointer (some ⟨b,0,none⟩),T.tokV tok.k tok.nm (.slice A m c) tok.tx].toArray w (SP w b t q (stepT tok st) (n+1)):=by
 cases tok with
 |start nm al=>exact take_start h ho hn ha
 |fin nm=>rw [hv (show (2:Int)≠1 by decide)];exact take_fin h ho
 |text v=>rw [hv (show (3:Int)≠1 by decide)];exact take_txt h ho hn
theorem AttrS.upd66 {w w':World} {v:Value} {al:List At} {b:Nat} {cs:List Value} (h:AttrS w v al) (hU:Upd w w' b 66 cs):AttrS w' v al:=RdS.upd h hU (by decide)
theorem rsNew2_calls {w:World}:Calls Tryz.prog 22 [].toArray w fun x w'=> ∃t r,x= .returned (.pointer (some ⟨t,0,none⟩))∧IsT w' t r rootN [0]∧Blk w' r.pm 121 [.slice none 0 0]∧Chg w w' No∧(∀k,footT t r k→w.heap.size≤k)∧w.heap.size≤r.pm:=by
 refine zCz 6 Tryz.func22 ?_
 refine zz ?_
 refine zCl rfl rNew_calls ?_
 rintro _ w1 ⟨pd,vn,vu,vr,ms,ks,rfl,hI,hC1,hge⟩
 refine ⟨_,rfl,?_⟩
 refine zCl rfl rmNew_calls ?_
 rintro _ w2 ⟨pm,rfl,hN2⟩
 refine ⟨_,rfl,?_⟩
 refine zB1 rfl (fun w3 b3 hN3=> ?_)
 refine z_buildE #[.pointer (some ⟨pd,0,none⟩),.pointer (some ⟨pm,0,none⟩),.slice (some ⟨b3,0,none⟩) 1 1,.bool false] (want_L rfl) (by decide) rfl (by kernel_rfl) ?_
 refine zBx rfl (fun w4 b4 hN4=> ?_)
 have hC2:=hC1.no hN2.chg
 have hC3:=hC2.no hN3.chg
 have hC4:=hC3.no hN4.chg
 have s1:=hC1.size
 have s2:=hN2.chg.size
 have s3:=hN3.chg.size
 have e3:=hN3.at_
 have e4:=hN4.at_
 have hO3:Own w3 3 1 (.slice (some ⟨b3,0,none⟩) 1 1) 1 (intC [0]):=Own.mk' (junk:= []) rfl (Nat.le_refl _) (by decide) (by rw [List.append_nil];exact hN3.blk) rfl (intC_one _)
 refine zz ?_
 refine zk_ret1 (.inr rfl) rfl rfl ⟨b4,⟨pd,pm,vn,vu,vr,ms,ks,.slice (some ⟨b3,0,none⟩) 1 1⟩,rfl,⟨hN4.blk,((hI.no hN2.chg).no hN3.chg).no hN4.chg,hO3.no hN4.chg,fun k hk hf=> ?_⟩,(hN2.blk.no hN3.chg).no hN4.chg,hC4,?_,hN2.ge hC1⟩
 ·simp only [Value.ownBlock,Option.some.injEq] at hk
  have:=hI.lt k hf
  omega
 ·rintro k (hk|hk|hk)
  ·omega
  ·simp only [Value.ownBlock,Option.some.injEq] at hk;omega
  ·exact hge k hk
def rootF:FE:=⟨[],[],.nil⟩
theorem root_ZF:ZF rootN [] [0] ([rootF].map FE.ft) rootN.length:=⟨rfl,by decide,⟨[],rfl,.nil _⟩,rfl⟩
theorem RunOk.few {t:Tok} {ts:List Tok} {s:St} (h:RunOk (t::ts) s):s.1.length≤700∧s.1≠ []:=by
 obtain ⟨h1,_⟩:=h
 cases t with
 |start nm al=>exact ⟨h1.2.1,h1.1⟩
 |fin nm=>exact ⟨h1.1,fun he=>by have h2:=h1.2.1;rw [he] at h2;simp at h2⟩
 |text v=>
  obtain ⟨h2,_,_,_,_,⟨f,fr,h3,_⟩,_⟩:=h1
  exact ⟨h2,by rw [h3];simp⟩
theorem txt_pos {t:Tok} {s:St} (h:StepOk t s):1≤t.txt.length:=by
 cases t with
 |start nm al=>simp [Tok.txt]
 |fin nm=>simp [Tok.txt]
 |text v=>
  obtain ⟨_,hv,_⟩:=h
  obtain ⟨e0,k0,_,_,h3,h4,_⟩:=T.safe_step false v hv
  show 1≤(T.safeN false v).length
  rw [h3]
  have:=List.length_pos_iff.mpr h4
  rw [List.length_append];omega
theorem RunOk.len: ∀{ts:List Tok} {s:St},RunOk ts s→ts.length≤(flatT ts).length
 | [],s,h=>Nat.le_refl _
 |t::ts,s,h=>by
  have h1:=RunOk.len h.2.2
  have h2:=txt_pos h.1
  unfold flatT at h1 ⊢
  rw [List.flatMap_cons,List.length_append,List.length_cons];omega
theorem parse_calls {w:World} (s:List UInt8) (toks:List Tok) (hs:s=flatT toks) (hl:s.length≤1048576) (hok:RunOk toks ([rootF],false)) (F:FE) (sk:Bool) (hrun:runT toks ([rootF],false)=([F],sk)) (hdeep:deepT F.done≤200):
  Calls Tryz.prog 9 [.string (bs s)].toArray w fun e w'=> ∃vo,e= .returned (.tuple #[vo,.int .i64 0])∧TreeAt w' vo F.done∧F.done.size≤10000000∧Chg w w' No:=by
 refine zCz 46 Tryz.func9 ?_
 refine zz ?_
 refine zCl rfl rsNew2_calls ?_
 rintro _ w1 ⟨t,r,rfl,hT,hm,hC1,hge,hgm⟩
 refine ⟨_,rfl,?_⟩
 refine z_buildE #[.pointer (some ⟨t,0,none⟩),.int .i64 0,.string ⟨#[]⟩,.bool false] (want_L rfl) (by decide) rfl (by kernel_rfl) ?_
 refine zBx rfl (fun w2 b hN2=> ?_)
 have hgb:=hN2.ge hC1
 have hS0:IsS w2 t ⟨r,.slice none 0 0,[]⟩ rootN [0] [rootF]:=by
  refine ⟨hT.no hN2.chg,⟨hm.no hN2.chg,Own.nil⟩,rootN_WF,root_ZF,fun i=> ?_⟩
  cases i with
  |zero=>exact Nat.zero_le _
  |succ i=>exact Nat.zero_le _
 have hB0:IsB w2 b t ⟨r,.slice none 0 0,[]⟩ rootN [0] [rootF] false:=⟨hN2.blk,hS0⟩
 have hC2:Chg w w2 No:=hC1.no hN2.chg
 have hf0: ∀k,ftB b t ⟨r,.slice none 0 0,[]⟩ k→w.heap.size≤k:=by
  rintro k (rfl|hk|rfl|hk)
  ·exact hgb
  ·exact hge k hk
  ·exact hgm
  ·cases hk
 have hlen:=hok.len
 rw [←hs] at hlen
 refine zz ?_
 refine zc_loopW (ι:=List Tok×Nat×St×Nat) (fun q u=> [(0,.string (bs s)),(4,.pointer (some ⟨b,0,none⟩)),(5,.int .i64 (q.2.1:Nat))])
  (fun q u=>s.drop q.2.1=flatT q.1∧q.2.1≤s.length∧RunOk q.1 q.2.2.1∧runT q.1 q.2.2.1=([F],sk)∧q.2.2.2+q.1.length≤s.length+1∧ ∃qq,BS u b t qq q.2.2.1 q.2.2.2∧Chg w u No∧ ∀k,ftB b t qq k→w.heap.size≤k)
  (fun q u=>q.1.length) (toks,0,([rootF],false),1) ⟨hs,Nat.zero_le _,hok,hrun,by show 1+toks.length≤_;omega,_,⟨rootN,[0],hB0,rfl,Nat.le_refl _⟩,hC2,hf0⟩ ⟨rfl,rfl,rfl,trivial⟩ ?_
 rintro ⟨ts,p,st,n⟩ u ⟨hd,hp,hro,hrn,hn,qq,hBS,hCu,hfu⟩
 dsimp only at hd hp hro hrn hn hBS
 obtain ⟨NN,RR,hBu,hMu,hNn⟩:=hBS
 have hbu:=hBu.blk
 have hfew:st.1.length≤700∧st.1≠ []:=by
  cases ts with
  |nil=>cases hrn;exact ⟨by simp,by simp⟩
  |cons t0 ts=>exact hro.few
 obtain ⟨f0,fr0,hst⟩: ∃f fr,st.1=f::fr:=by
  cases h:st.1 with
  |nil=>exact absurd h hfew.2
  |cons f fr=>exact ⟨f,fr,rfl⟩
 have hBu':=hBu
 rw [hst] at hBu' hfew
 have hfe:=hfew.1
 simp only [List.length_cons] at hfe
 obtain ⟨n0',R0',rfl⟩:=hBu'.one
 refine zB (zS ?_)
 refine zc_draw [] (fun w'=>Chg u w' No∧Blk w' b 64 [.pointer (some ⟨t,0,none⟩),.int .i64 0,.string ⟨#[]⟩,.bool st.2]) (.take 0 (.take 1 (.take 2 (.take 4 (.take 5 (.take 6 (.take 7 (.all2 3 (.all2 8 (.take 9 (.take 10 (.take 11 (.all1 12 (.all1 13 (.take 14 (.fin))))))) 12 (.all1 8 (.take 9 (.take 10 (.take 11 (.all1 13 (.take 14 (.fin)))))))) 12 (.all1 3 (.all1 8 (.take 9 (.take 10 (.take 11 (.all1 13 (.take 14 (.fin)))))))))))))))) (by rfl) (by kernel_rfl) (by kernel_rfl) (fun u1 hCu1 _=>⟨?_,?_⟩)
 ·exact ⟨hCu1,hbu.no hCu1⟩
 have C:=hCu1
 refine zz ?_
 cases ts with
 |nil=>
  refine zs_two ?_ ?_
  ·refine zo_call rfl (want_L rfl) rfl (by decide) rfl (bstate_calls (hBu'.no C) (by omega)) ?_
   rintro _ ua ⟨rfl,hC⟩
   have C:=C.no hC
   refine ⟨_,rfl,⟨C,hbu.no C⟩,?_⟩
   refine zs_two ?_ ?_
   ·obtain rfl:p=s.length:=by
     have:(s.drop p).length=0:=by rw [hd];rfl
     rw [List.length_drop] at this;omega
    refine zo_call rfl (want_L rfl) rfl (by decide) rfl (T.next0_calls s (by omega)) ?_
    rintro _ uc ⟨rfl,hC⟩
    have C:=C.no hC
    refine ⟨_,rfl,⟨C,hbu.no C⟩,?_⟩
    refine ztP rfl rfl (ztP rfl rfl (ztP rfl rfl ?_))
    refine zs_alloc rfl (want_L rfl) (by decide) (fun ub b6 hN6=> ?_)
    have hge6:=hN6.ge C
    have hb60:Blk ub b6 66 [.int .i64 0,.string ⟨#[]⟩,.slice none 0 0,.bool false,.string ⟨#[]⟩]:=hN6.blk
    have C:=C.no hN6.chg
    have hb6:=hb60
    refine ⟨⟨C,hbu.no C⟩,?_⟩
    unfold T.tokV
    refine zs_store rfl (want_L rfl) rfl rfl rfl (by assumption) (by first|exact Nat.le_refl _|simp [Value.cells]) (by simp [Value.cells,Value.oneCell']) (fun ud hUd=> ?_)
    have C0:=C
    have C:Chg u ud No:=C.upd hUd hge6
    have hb6:Blk ud b6 66 [.int .i64 5,.string (bs []),.slice none 0 0,.bool false,.string (bs [])]:=hUd.blk
    refine ⟨⟨C,hbu.no C⟩,?_⟩
    refine zz ?_
    have hBe:=hBu'.no C
    have hbe:=hBe.blk
    have hbt:=hBe.st.site.blk
    cases hrn
    simp only [List.cons.injEq] at hst
    obtain ⟨rfl,rfl⟩:=hst
    have hlen1:=hBe.st.len.1
    simp only [List.length_cons,List.length_nil] at hlen1
    obtain rfl:R0'= []:=List.eq_nil_of_length_eq_zero (by omega)
    obtain ⟨z1,z2,⟨ks,z3,z4⟩,z5⟩:=hBe.st.zf
    have z5:n0'=0:=z5
    subst z5
    rw [List.append_nil] at z3
    have htf:TF NN (NN.getD 0 n0).kids F.done:=by rw [z3];exact z4.tf
    have hsz:=TF.size hBe.st.wf z2 htf
    have hNl:NN.length≤1100000:=by simp only [List.length_nil] at hn;omega
    refine zz ?_
    refine zCl rfl (rTree_calls hBe.st.wf (by omega) F.done.size hBe.st.site.doc 0 z2 F.done htf (Nat.le_refl _)) ?_
    rintro _ ue ⟨vo,rfl,hTo,hCe⟩
    refine ⟨_,rfl,?_⟩
    have hTa:=hTo.at'
    obtain ⟨Ao,co,rfl,_⟩:=hTa.form
    refine zz ?_
    refine zCr rfl (deepR_calls F.done.size hTa (Nat.le_refl _) (by omega)) fun uf hCf=> ?_
    refine zz ?_
    exact zk_ret2 (.inr rfl) rfl rfl rfl ⟨_,rfl,hTa.no hCf,by omega,((hCu.no C).no hCe).no hCf⟩
   ·refine zo_alloc rfl (want_L rfl) (by decide) (fun ub b6 hN6=> ?_)
    have hge6:=hN6.ge C
    have hb60:Blk ub b6 66 [.int .i64 0,.string ⟨#[]⟩,.slice none 0 0,.bool false,.string ⟨#[]⟩]:=hN6.blk
    have C:=C.no hN6.chg
    have hb6:=hb60
    refine ⟨⟨C,hbu.no C⟩,?_⟩
    obtain rfl:p=s.length:=by
     have:(s.drop p).length=0:=by rw [hd];rfl
     rw [List.length_drop] at this;omega
    refine zs_call rfl (want_L rfl) rfl (by decide) rfl (T.next0_calls s (by omega)) ?_
    rintro _ uc ⟨rfl,hC⟩
    have C:=C.no hC
    have hb6:=hb6.no hC
    refine ⟨_,rfl,⟨C,hbu.no C⟩,?_⟩
    unfold T.tokV
    refine ztP rfl rfl (ztP rfl rfl (ztP rfl rfl ?_))
    refine zs_store rfl (want_L rfl) rfl rfl rfl (by assumption) (by first|exact Nat.le_refl _|simp [Value.cells]) (by simp [Value.cells,Value.oneCell']) (fun ud hUd=> ?_)
    have C0:=C
    have C:Chg u ud No:=C.upd hUd hge6
    have hb6:Blk ud b6 66 [.int .i64 5,.string (bs []),.slice none 0 0,.bool false,.string (bs [])]:=hUd.blk
    refine ⟨⟨C,hbu.no C⟩,?_⟩
    refine zz ?_
    have hBe:=hBu'.no C
    have hbe:=hBe.blk
    have hbt:=hBe.st.site.blk
    cases hrn
    simp only [List.cons.injEq] at hst
    obtain ⟨rfl,rfl⟩:=hst
    have hlen1:=hBe.st.len.1
    simp only [List.length_cons,List.length_nil] at hlen1
    obtain rfl:R0'= []:=List.eq_nil_of_length_eq_zero (by omega)
    obtain ⟨z1,z2,⟨ks,z3,z4⟩,z5⟩:=hBe.st.zf
    have z5:n0'=0:=z5
    subst z5
    rw [List.append_nil] at z3
    have htf:TF NN (NN.getD 0 n0).kids F.done:=by rw [z3];exact z4.tf
    have hsz:=TF.size hBe.st.wf z2 htf
    have hNl:NN.length≤1100000:=by simp only [List.length_nil] at hn;omega
    refine zz ?_
    refine zCl rfl (rTree_calls hBe.st.wf (by omega) F.done.size hBe.st.site.doc 0 z2 F.done htf (Nat.le_refl _)) ?_
    rintro _ ue ⟨vo,rfl,hTo,hCe⟩
    refine ⟨_,rfl,?_⟩
    have hTa:=hTo.at'
    obtain ⟨Ao,co,rfl,_⟩:=hTa.form
    refine zz ?_
    refine zCr rfl (deepR_calls F.done.size hTa (Nat.le_refl _) (by omega)) fun uf hCf=> ?_
    refine zz ?_
    exact zk_ret2 (.inr rfl) rfl rfl rfl ⟨_,rfl,hTa.no hCf,by omega,((hCu.no C).no hCe).no hCf⟩
  ·refine zo_alloc rfl (want_L rfl) (by decide) (fun ub b6 hN6=> ?_)
   have hge6:=hN6.ge C
   have hb60:Blk ub b6 66 [.int .i64 0,.string ⟨#[]⟩,.slice none 0 0,.bool false,.string ⟨#[]⟩]:=hN6.blk
   have C:=C.no hN6.chg
   have hb6:=hb60
   refine ⟨⟨C,hbu.no C⟩,?_⟩
   refine zs_call rfl (want_L rfl) rfl (by decide) rfl (bstate_calls (hBu'.no C) (by omega)) ?_
   rintro _ ua ⟨rfl,hC⟩
   have C:=C.no hC
   have hb6:=hb6.no hC
   refine ⟨_,rfl,⟨C,hbu.no C⟩,?_⟩
   obtain rfl:p=s.length:=by
    have:(s.drop p).length=0:=by rw [hd];rfl
    rw [List.length_drop] at this;omega
   refine zs_call rfl (want_L rfl) rfl (by decide) rfl (T.next0_calls s (by omega)) ?_
   rintro _ uc ⟨rfl,hC⟩
   have C:=C.no hC
   have hb6:=hb6.no hC
   refine ⟨_,rfl,⟨C,hbu.no C⟩,?_⟩
   unfold T.tokV
   refine ztP rfl rfl (ztP rfl rfl (ztP rfl rfl ?_))
   refine zs_store rfl (want_L rfl) rfl rfl rfl (by assumption) (by first|exact Nat.le_refl _|simp [Value.cells]) (by simp [Value.cells,Value.oneCell']) (fun ud hUd=> ?_)
   have C0:=C
   have C:Chg u ud No:=C.upd hUd hge6
   have hb6:Blk ud b6 66 [.int .i64 5,.string (bs []),.slice none 0 0,.bool false,.string (bs [])]:=hUd.blk
   refine ⟨⟨C,hbu.no C⟩,?_⟩
   refine zz ?_
   have hBe:=hBu'.no C
   have hbe:=hBe.blk
   have hbt:=hBe.st.site.blk
   cases hrn
   simp only [List.cons.injEq] at hst
   obtain ⟨rfl,rfl⟩:=hst
   have hlen1:=hBe.st.len.1
   simp only [List.length_cons,List.length_nil] at hlen1
   obtain rfl:R0'= []:=List.eq_nil_of_length_eq_zero (by omega)
   obtain ⟨z1,z2,⟨ks,z3,z4⟩,z5⟩:=hBe.st.zf
   have z5:n0'=0:=z5
   subst z5
   rw [List.append_nil] at z3
   have htf:TF NN (NN.getD 0 n0).kids F.done:=by rw [z3];exact z4.tf
   have hsz:=TF.size hBe.st.wf z2 htf
   have hNl:NN.length≤1100000:=by simp only [List.length_nil] at hn;omega
   refine zz ?_
   refine zCl rfl (rTree_calls hBe.st.wf (by omega) F.done.size hBe.st.site.doc 0 z2 F.done htf (Nat.le_refl _)) ?_
   rintro _ ue ⟨vo,rfl,hTo,hCe⟩
   refine ⟨_,rfl,?_⟩
   have hTa:=hTo.at'
   obtain ⟨Ao,co,rfl,_⟩:=hTa.form
   refine zz ?_
   refine zCr rfl (deepR_calls F.done.size hTa (Nat.le_refl _) (by omega)) fun uf hCf=> ?_
   refine zz ?_
   exact zk_ret2 (.inr rfl) rfl rfl rfl ⟨_,rfl,hTa.no hCf,by omega,((hCu.no C).no hCe).no hCf⟩
 |cons tok ts=>
  refine zs_two ?_ ?_
  ·refine zo_call rfl (want_L rfl) rfl (by decide) rfl (bstate_calls (hBu'.no C) (by omega)) ?_
   rintro _ ua ⟨rfl,hC⟩
   have C:=C.no hC
   refine ⟨_,rfl,⟨C,hbu.no C⟩,?_⟩
   refine zs_two ?_ ?_
   ·refine zo_call rfl (want_L rfl) rfl (by decide) rfl (nextTok_calls s (flatT ts) p tok hro.1 (by rw [hd];rfl) (fun h=>flat_head ts (hro.2.1 h)) (by omega)) ?_
    rintro _ uc ⟨⟨A,m,c,rfl,hA,hv⟩,hC⟩
    have C:=C.no hC
    refine ⟨_,rfl,⟨C,hbu.no C⟩,?_⟩
    refine ztP rfl rfl (ztP rfl rfl (ztP rfl rfl ?_))
    refine zs_alloc rfl (want_L rfl) (by decide) (fun ub b6 hN6=> ?_)
    have hge6:=hN6.ge C
    have hb60:Blk ub b6 66 [.int .i64 0,.string ⟨#[]⟩,.slice none 0 0,.bool false,.string ⟨#[]⟩]:=hN6.blk
    have C:=C.no hN6.chg
    have hb6:=hb60
    refine ⟨⟨C,hbu.no C⟩,?_⟩
    have hA:=hA.no hN6.chg
    unfold T.tokV
    refine zs_store rfl (want_L rfl) rfl rfl rfl (by assumption) (by first|exact Nat.le_refl _|simp [Value.cells]) (by simp [Value.cells,Value.oneCell']) (fun ud hUd=> ?_)
    have C0:=C
    have C:Chg u ud No:=C.upd hUd hge6
    have hb6:Blk ud b6 66 [.int .i64 tok.k,.string (bs tok.nm),.slice A m c,.bool false,.string (bs tok.tx)]:=hUd.blk
    refine ⟨⟨C,hbu.no C⟩,?_⟩
    have hk5:=tok.k5
    refine zz ?_
    have hbs2:BS ud b t qq st n:=⟨NN,_,hBu.no C,hMu,hNn⟩
    simp only [List.length_cons] at hn
    refine zCl rfl (takeTok_calls tok hbs2 hro.1 (by omega) (AttrS.upd66 hA hUd) hv) ?_
    rintro _ ue ⟨rfl,q2,hB2,hW2⟩
    refine ⟨_,rfl,?_⟩
    refine zN (zM ?_)
    refine zk_loopW (ts,p+tok.txt.length,stepT tok st,n+1) ⟨?_,?_,hro.2.2,hrn,by show n+1+ts.length≤_;omega,q2,hB2,(hCu.no C).trans hW2.chg (fun k hk hf=>by have:=hfu k hf;omega),fun k hk=> ?_⟩ (by show ts.length<(tok::ts).length;simp) ⟨rfl,rfl,get_int rfl (by simp),trivial⟩
    ·dsimp only
     rw [←List.drop_drop,hd]
     show (tok.txt++flatT ts).drop _=_
     rw [List.drop_left]
    ·dsimp only
     have:(s.drop p).length=(tok.txt++flatT ts).length:=by rw [hd];rfl
     rw [List.length_drop,List.length_append] at this
     omega
    ·rcases hW2.ft k hk with h1|h1
     ·exact hfu k h1
     ·have:=(hCu.no C).size;omega
   ·refine zo_alloc rfl (want_L rfl) (by decide) (fun ub b6 hN6=> ?_)
    have hge6:=hN6.ge C
    have hb60:Blk ub b6 66 [.int .i64 0,.string ⟨#[]⟩,.slice none 0 0,.bool false,.string ⟨#[]⟩]:=hN6.blk
    have C:=C.no hN6.chg
    have hb6:=hb60
    refine ⟨⟨C,hbu.no C⟩,?_⟩
    refine zs_call rfl (want_L rfl) rfl (by decide) rfl (nextTok_calls s (flatT ts) p tok hro.1 (by rw [hd];rfl) (fun h=>flat_head ts (hro.2.1 h)) (by omega)) ?_
    rintro _ uc ⟨⟨A,m,c,rfl,hA,hv⟩,hC⟩
    have C:=C.no hC
    have hb6:=hb6.no hC
    refine ⟨_,rfl,⟨C,hbu.no C⟩,?_⟩
    unfold T.tokV
    refine ztP rfl rfl (ztP rfl rfl (ztP rfl rfl ?_))
    refine zs_store rfl (want_L rfl) rfl rfl rfl (by assumption) (by first|exact Nat.le_refl _|simp [Value.cells]) (by simp [Value.cells,Value.oneCell']) (fun ud hUd=> ?_)
    have C0:=C
    have C:Chg u ud No:=C.upd hUd hge6
    have hb6:Blk ud b6 66 [.int .i64 tok.k,.string (bs tok.nm),.slice A m c,.bool false,.string (bs tok.tx)]:=hUd.blk
    refine ⟨⟨C,hbu.no C⟩,?_⟩
    have hk5:=tok.k5
    refine zz ?_
    have hbs2:BS ud b t qq st n:=⟨NN,_,hBu.no C,hMu,hNn⟩
    simp only [List.length_cons] at hn
    refine zCl rfl (takeTok_calls tok hbs2 hro.1 (by omega) (AttrS.upd66 hA hUd) hv) ?_
    rintro _ ue ⟨rfl,q2,hB2,hW2⟩
    refine ⟨_,rfl,?_⟩
    refine zN (zM ?_)
    refine zk_loopW (ts,p+tok.txt.length,stepT tok st,n+1) ⟨?_,?_,hro.2.2,hrn,by show n+1+ts.length≤_;omega,q2,hB2,(hCu.no C).trans hW2.chg (fun k hk hf=>by have:=hfu k hf;omega),fun k hk=> ?_⟩ (by show ts.length<(tok::ts).length;simp) ⟨rfl,rfl,get_int rfl (by simp),trivial⟩
    ·dsimp only
     rw [←List.drop_drop,hd]
     show (tok.txt++flatT ts).drop _=_
     rw [List.drop_left]
    ·dsimp only
     have:(s.drop p).length=(tok.txt++flatT ts).length:=by rw [hd];rfl
     rw [List.length_drop,List.length_append] at this
     omega
    ·rcases hW2.ft k hk with h1|h1
     ·exact hfu k h1
     ·have:=(hCu.no C).size;omega
  ·refine zo_alloc rfl (want_L rfl) (by decide) (fun ub b6 hN6=> ?_)
   have hge6:=hN6.ge C
   have hb60:Blk ub b6 66 [.int .i64 0,.string ⟨#[]⟩,.slice none 0 0,.bool false,.string ⟨#[]⟩]:=hN6.blk
   have C:=C.no hN6.chg
   have hb6:=hb60
   refine ⟨⟨C,hbu.no C⟩,?_⟩
   refine zs_call rfl (want_L rfl) rfl (by decide) rfl (bstate_calls (hBu'.no C) (by omega)) ?_
   rintro _ ua ⟨rfl,hC⟩
   have C:=C.no hC
   have hb6:=hb6.no hC
   refine ⟨_,rfl,⟨C,hbu.no C⟩,?_⟩
   refine zs_call rfl (want_L rfl) rfl (by decide) rfl (nextTok_calls s (flatT ts) p tok hro.1 (by rw [hd];rfl) (fun h=>flat_head ts (hro.2.1 h)) (by omega)) ?_
   rintro _ uc ⟨⟨A,m,c,rfl,hA,hv⟩,hC⟩
   have C:=C.no hC
   have hb6:=hb6.no hC
   refine ⟨_,rfl,⟨C,hbu.no C⟩,?_⟩
   unfold T.tokV
   refine ztP rfl rfl (ztP rfl rfl (ztP rfl rfl ?_))
   refine zs_store rfl (want_L rfl) rfl rfl rfl (by assumption) (by first|exact Nat.le_refl _|simp [Value.cells]) (by simp [Value.cells,Value.oneCell']) (fun ud hUd=> ?_)
   have C0:=C
   have C:Chg u ud No:=C.upd hUd hge6
   have hb6:Blk ud b6 66 [.int .i64 tok.k,.string (bs tok.nm),.slice A m c,.bool false,.string (bs tok.tx)]:=hUd.blk
   refine ⟨⟨C,hbu.no C⟩,?_⟩
   have hk5:=tok.k5
   refine zz ?_
   have hbs2:BS ud b t qq st n:=⟨NN,_,hBu.no C,hMu,hNn⟩
   simp only [List.length_cons] at hn
   refine zCl rfl (takeTok_calls tok hbs2 hro.1 (by omega) (AttrS.upd66 hA hUd) hv) ?_
   rintro _ ue ⟨rfl,q2,hB2,hW2⟩
   refine ⟨_,rfl,?_⟩
   refine zN (zM ?_)
   refine zk_loopW (ts,p+tok.txt.length,stepT tok st,n+1) ⟨?_,?_,hro.2.2,hrn,by show n+1+ts.length≤_;omega,q2,hB2,(hCu.no C).trans hW2.chg (fun k hk hf=>by have:=hfu k hf;omega),fun k hk=> ?_⟩ (by show ts.length<(tok::ts).length;simp) ⟨rfl,rfl,get_int rfl (by simp),trivial⟩
   ·dsimp only
    rw [←List.drop_drop,hd]
    show (tok.txt++flatT ts).drop _=_
    rw [List.drop_left]
   ·dsimp only
    have:(s.drop p).length=(tok.txt++flatT ts).length:=by rw [hd];rfl
    rw [List.length_drop,List.length_append] at this
    omega
   ·rcases hW2.ft k hk with h1|h1
    ·exact hfu k h1
    ·have:=(hCu.no C).size;omega
def blocksN:List (List UInt8):= [[98,108,111,99,107,113,117,111,116,101],[104,50],[104,51],[104,52],[104,53],[104,54],[104,114],[111,108],[112],[112,114,101],[116,97,98,108,101],[117,108]]
def inlineN:List (List UInt8):= [[97],[98,114],[99,111,100,101],[101,109],[105,109,103],[115,116,114,111,110,103],[115,117,98],[115,117,112]]
def lineN:List (List UInt8):= [[104,50],[104,51],[104,52],[104,53],[104,54],[112],[112,114,101]]
def inlN:List (List UInt8):= [[97],[99,111,100,101],[101,109],[115,116,114,111,110,103],[115,117,98],[115,117,112]]
def liW:List UInt8:= [108,105]
def olW:List UInt8:= [111,108]
def ulW:List UInt8:= [117,108]
def quoteW:List UInt8:= [98,108,111,99,107,113,117,111,116,101]
def textH (v:List UInt8):Hd:=hdOf (textN v)
def bareN:T.AT→NT
 | .nil=> .nil
 | .cons x k r=>if x.name= [] then .cons (textH x.text) .nil (bareN r) else .cons (elemH x.name x.attrs) (bareN k) (bareN r)
def toksF (nl:Bool):T.AT→List Tok
 | .nil=> []
 | .cons x k r=>if x.name= [] then .text (if nl=true then 10::x.text else x.text)::toksF false r
  else if x.name∈leafN then .start x.name x.attrs::toksF false r
  else .start x.name x.attrs::(toksF (decide (x.name=preW) && k.feeds) k++ .fin x.name::toksF false r)
section
variable {nl : Bool} {x : T.Hd} {k r : T.AT}
theorem bare_text (h:x.name= []):bareN (.cons x k r)= .cons (textH x.text) .nil (bareN r):=by rw [bareN,if_pos h]
theorem bare_elem (h:x.name≠ []):bareN (.cons x k r)= .cons (elemH x.name x.attrs) (bareN k) (bareN r):=by rw [bareN,if_neg h]
theorem toks_text (h:x.name= []):toksF nl (.cons x k r)= .text (if nl=true then 10::x.text else x.text)::toksF false r:=by rw [toksF,if_pos h]
theorem toks_leaf (h:x.name≠ []) (h2:x.name∈leafN):toksF nl (.cons x k r)= .start x.name x.attrs::toksF false r:=by rw [toksF,if_neg h,if_pos h2]
theorem toks_open (h:x.name≠ []) (h2:x.name∉leafN):toksF nl (.cons x k r)= .start x.name x.attrs::(toksF (decide (x.name=preW) && k.feeds) k++ .fin x.name::toksF false r):=by rw [toksF,if_neg h,if_neg h2]
end
def SA:T.AT→Prop
 | .nil=>True
 | .cons x k r=>(if x.name= [] then x.text≠ []∧0∉x.text∧x.text.length≤1000000 else T.AtOk x.attrs∧T.kidsA x.name k∧SA k)∧SA r
inductive Cx where
 |blocks
 |line
 |list
 |table
 |tbody
 |tr
structure Path0 (fr:List FE):Prop where
 nop: ∀g∈fr,g.nm≠ [112]
 nof: ∀nm∈fmtN,nm∉upN fr
def CtxOk:Cx→List FE→T.AT→Prop
 | .blocks,fr,a=>Path0 fr∧plainG fr∧topN fr∉B.wd (B.setW 5)∧T.ofA blocksN a
 | .line,fr,a=>plainG fr∧T.lineA a∧ ∀nm∈fmtN,T.hasA nm a→nm∉upN fr
 | .list,fr,a=>Path0 fr∧plainG fr∧2≤fr.length∧(topN fr=olW∨topN fr=ulW)∧T.ofA [liW] a
 | .table,fr,a=>Path0 fr∧2≤fr.length∧topN fr=tableW∧T.ofA [tbodyW] a
 | .tbody,fr,a=>Path0 fr∧2≤fr.length∧topN fr=tbodyW∧T.ofA [trW] a
 | .tr,fr,a=>Path0 fr∧2≤fr.length∧topN fr=trW∧T.ofA cellN a
section
variable {f f' g : FE} {fr : List FE} {a : T.AT}
theorem lastN_same (l:List (List UInt8)) (h:f'.nm=f.nm):lastN l (f'::fr)=lastN l (f::fr):=by
 cases fr with
 |nil=>rfl
 |cons g fr=>unfold lastN;rw [h]
theorem plainG_same (h:f'.nm=f.nm) (hp:plainG (f::fr)):plainG (f'::fr):=by unfold plainG at*;rw [lastN_same _ h];exact hp
theorem upN_same (h:f'.nm=f.nm):upN (f'::fr)=upN (f::fr):=by unfold upN;rw [h]
theorem Path0.same (h:f'.nm=f.nm) (hp:Path0 (f::fr)):Path0 (f'::fr):=by
 refine ⟨fun g hg=> ?_,fun nm hn=>by rw [upN_same h];exact hp.nof nm hn⟩
 rcases List.mem_cons.1 hg with rfl|hg
 ·rw [h];exact hp.nop f List.mem_cons_self
 ·exact hp.nop g (List.mem_cons_of_mem _ hg)
theorem CtxOk.tail {cx:Cx} {x:T.Hd} {k r:T.AT} (h:CtxOk cx (f::fr) (.cons x k r)) (he:f'.nm=f.nm):CtxOk cx (f'::fr) r:=by
 cases cx with
 |blocks=>
  obtain ⟨h1,h2,h3,h4⟩:=h
  exact ⟨h1.same he,plainG_same he h2,by show f'.nm∉_;rw [he];exact h3,h4.2⟩
 |line=>
  obtain ⟨h1,h2,h3⟩:=h
  refine ⟨plainG_same he h1,h2.2.2,fun nm hn hh=> ?_⟩
  rw [upN_same he]
  exact h3 nm hn (.inr (.inr hh))
 |list=>
  obtain ⟨h1,h2,h3,h4,h5⟩:=h
  exact ⟨h1.same he,plainG_same he h2,h3,by show f'.nm=_∨f'.nm=_;rw [he];exact h4,h5.2⟩
 |table=>
  obtain ⟨h1,h3,h4,h5⟩:=h
  exact ⟨h1.same he,h3,by show f'.nm=_;rw [he];exact h4,h5.2⟩
 |tbody=>
  obtain ⟨h1,h3,h4,h5⟩:=h
  exact ⟨h1.same he,h3,by show f'.nm=_;rw [he];exact h4,h5.2⟩
 |tr=>
  obtain ⟨h1,h3,h4,h5⟩:=h
  exact ⟨h1.same he,h3,by show f'.nm=_;rw [he];exact h4,h5.2⟩
theorem plainG_in (h:g.nm∉grN) (hp:plainG (f::fr)):plainG (g::f::fr):=by
 have:lastN grN (g::f::fr)=lastN grN (f::fr):=if_neg h
 unfold plainG at*
 rw [this];exact hp
theorem plainG_cell (h:g.nm∈cellN):plainG (g::f::fr):=by
 have:lastN grN (g::f::fr)=g.nm:=if_pos ((show∀a∈cellN,a∈grN by decide) _ h)
 unfold plainG
 rw [this];exact .inr h
theorem Path0.in_ (h:g.nm∉fmtN) (hp:g.nm≠ [112]) (h0:Path0 (f::fr)):Path0 (g::f::fr):=by
 refine ⟨fun g' hg=> ?_,fun nm hn hh=> ?_⟩
 ·rcases List.mem_cons.1 hg with rfl|hg
  ·exact hp
  ·exact h0.nop g' hg
 ·unfold upN at hh
  split at hh
  ·cases hh
  ·rcases List.mem_cons.1 hh with rfl|hh
   ·exact h hn
   ·exact h0.nof nm hn hh
theorem upN_line (h:g.nm∉fmtN) (h0: ∀nm∈fmtN,nm∉upN (f::fr)): ∀nm∈fmtN,nm∉upN (g::f::fr):=fun nm hn hh=>by
 unfold upN at hh
 split at hh
 ·cases hh
 ·rcases List.mem_cons.1 hh with rfl|hh
  ·exact h hn
  ·exact h0 nm hn hh
theorem CtxOk.start {cx:Cx} {x:T.Hd} {k r:T.AT} (h:CtxOk cx (f::fr) (.cons x k r)) (hn:x.name≠ []) (hk:T.kidsA x.name k) (al:List T.At):
  T.NmOk x.name∧((x.name∈startN∧plainG (f::fr)∧CondS x.name (f::fr))∨(2≤(f::fr).length∧((x.name=tbodyW∧topN (f::fr)=tableW)∨(x.name=trW∧topN (f::fr)=tbodyW)∨(x.name∈cellN∧topN (f::fr)=trW))))∧
  (x.name∉leafN→(∃cx',CtxOk cx' (⟨x.name,al,.nil⟩::f::fr) k)∧((x.name∈endN∧plainG (⟨x.name,al,.nil⟩::f::fr))∨x.name=tableW∨x.name=tbodyW∨x.name=trW∨x.name∈cellN)):=by
 obtain ⟨k1,k2,k3,k4,k5,k6,k7,k8,k9⟩:=hk
 have nmok: ∀a∈(startN++ [tbodyW,trW]++cellN:List (List UInt8)),T.NmOk a:=by
  have: ∀a∈(startN++ [tbodyW,trW]++cellN:List (List UInt8)),a≠ []∧(∀c∈a,T.lowC c)∧97≤(a.getD 0 0).toNat∧(a.getD 0 0).toNat≤122:=by decide+kernel
  intro a ha
  obtain ⟨h1,h2,h3⟩:=this a ha
  refine ⟨h1,h2,?_⟩
  cases a with
  |nil=>exact absurd rfl h1
  |cons c q=>exact ⟨c,q,rfl,h3⟩
 cases cx with
 |blocks=>
  obtain ⟨h1,h2,h3,h4,_⟩:=h
  have hs:x.name∈startN:=(show∀a∈blocksN,a∈startN by decide) _ h4
  refine ⟨nmok _ (by simp [hs]),.inl ⟨hs,h2,⟨fun _=>h1.nop,fun _ f' hf=> ?_,fun he=> ?_,fun hf=> ?_⟩⟩,fun hl=> ?_⟩
  ·cases hf;exact h3
  ·exact absurd h4 (by rw [he];decide)
  ·exact absurd hf ((show∀a∈blocksN,a∉fmtN by decide) _ h4)
  ·by_cases hln:x.name∈lineN
   ·have hg:x.name∉grN:=(show∀a∈lineN,a∉grN by decide) _ hln
    have hfm:x.name∉fmtN:=(show∀a∈lineN,a∉fmtN by decide) _ hln
    exact ⟨⟨.line,plainG_in hg h2,k1 hln,fun nm hnm _=>upN_line (g:=⟨x.name,al,.nil⟩) hfm h1.nof nm hnm⟩,.inl ⟨(show∀a∈lineN,a∈endN by decide) _ hln,plainG_in hg h2⟩⟩
   ·have hb:x.name=olW∨x.name=ulW∨x.name=quoteW∨x.name=tableW:=by
     have: ∀a∈blocksN,a∉lineN→a∉leafN→a=olW∨a=ulW∨a=quoteW∨a=tableW:=by decide
     exact this _ h4 hln hl
    rcases hb with e|e|e|e
    ·have e0:Path0 (⟨x.name,al,.nil⟩::f::fr):=Path0.in_ (g:=⟨x.name,al,.nil⟩) (by show x.name∉_;rw [e];decide) (by show x.name≠_;rw [e];decide) h1
     have e1:plainG (⟨x.name,al,.nil⟩::f::fr):=plainG_in (by show x.name∉_;rw [e];decide) h2
     exact ⟨⟨.list,e0,e1,by simp,.inl e,k4 (.inl e)⟩,.inl ⟨by rw [e];decide,e1⟩⟩
    ·have e0:Path0 (⟨x.name,al,.nil⟩::f::fr):=Path0.in_ (g:=⟨x.name,al,.nil⟩) (by show x.name∉_;rw [e];decide) (by show x.name≠_;rw [e];decide) h1
     have e1:plainG (⟨x.name,al,.nil⟩::f::fr):=plainG_in (by show x.name∉_;rw [e];decide) h2
     exact ⟨⟨.list,e0,e1,by simp,.inr e,k4 (.inr e)⟩,.inl ⟨by rw [e];decide,e1⟩⟩
    ·have e0:Path0 (⟨x.name,al,.nil⟩::f::fr):=Path0.in_ (g:=⟨x.name,al,.nil⟩) (by show x.name∉_;rw [e];decide) (by show x.name≠_;rw [e];decide) h1
     have e1:plainG (⟨x.name,al,.nil⟩::f::fr):=plainG_in (by show x.name∉_;rw [e];decide) h2
     exact ⟨⟨.blocks,e0,e1,by show x.name∉_;rw [e];decide+kernel,k5 e⟩,.inl ⟨by rw [e];decide,e1⟩⟩
    ·have e0:Path0 (⟨x.name,al,.nil⟩::f::fr):=Path0.in_ (g:=⟨x.name,al,.nil⟩) (by show x.name∉_;rw [e];decide) (by show x.name≠_;rw [e];decide) h1
     exact ⟨⟨.table,e0,by simp,e,k6 e⟩,.inr (.inl e)⟩
 |line=>
  obtain ⟨h1,⟨h2,_⟩,h3⟩:=h
  have hin:x.name∈inlineN:=h2.resolve_left hn
  have hs:x.name∈startN:=(show∀a∈inlineN,a∈startN by decide) _ hin
  have hnp:x.name∉pN:=(show∀a∈inlineN,a∉pN by decide) _ hin
  refine ⟨nmok _ (by simp [hs]),.inl ⟨hs,h1,⟨fun hh=>absurd hh hnp,fun hh=>absurd hh ((show∀a∈inlineN,a∉headN by decide) _ hin),fun he=> ?_,fun hf=>h3 _ hf (.inl rfl)⟩⟩,fun hl=> ?_⟩
  ·exact absurd hin (by rw [he];decide)
  ·have hi:x.name∈inlN:=(show∀a∈inlineN,a∉leafN→a∈inlN by decide) _ hin hl
   have hg:x.name∉grN:=(show∀a∈inlineN,a∉grN by decide) _ hin
   have hcl:x.name∉cellN:=(show∀a∈inlineN,a∉cellN by decide) _ hin
   obtain ⟨g1,g2⟩:=k2 hi
   refine ⟨⟨.line,plainG_in hg h1,g1,fun nm hnm hh hu=> ?_⟩,.inl ⟨(show∀a∈inlN,a∈endN by decide) _ hi,plainG_in hg h1⟩⟩
   have e:upN (⟨x.name,al,.nil⟩::f::fr)=x.name::upN (f::fr):=if_neg hcl
   rw [e] at hu
   rcases List.mem_cons.1 hu with rfl|hu
   ·exact g2 hh
   ·exact h3 nm hnm (.inr (.inl hh)) hu
 |list=>
  obtain ⟨h1,h2,h3,h4,h5,_⟩:=h
  have e:x.name=liW:=List.mem_singleton.1 h5
  refine ⟨nmok _ (by rw [e];decide),.inl ⟨by rw [e];decide,h2,⟨fun _=>h1.nop,fun hh=>absurd hh (by rw [e];decide),fun _=> ?_,fun hf=>absurd hf (by rw [e];decide)⟩⟩,fun hl=> ?_⟩
  ·cases fr with
   |nil=>simp at h3
   |cons g fr=>exact ⟨f,g,fr,rfl,h4⟩
  ·have e0:Path0 (⟨x.name,al,.nil⟩::f::fr):=Path0.in_ (g:=⟨x.name,al,.nil⟩) (by show x.name∉_;rw [e];decide) (by show x.name≠_;rw [e];decide) h1
   have e1:plainG (⟨x.name,al,.nil⟩::f::fr):=plainG_in (by show x.name∉_;rw [e];decide) h2
   refine ⟨?_,.inl ⟨by rw [e];decide,e1⟩⟩
   rcases k9 (.inl e) with hk|hk
   ·exact ⟨.blocks,e0,e1,by show x.name∉_;rw [e];decide+kernel,hk⟩
   ·exact ⟨.line,e1,hk,fun nm hnm _=>e0.nof nm hnm⟩
 |table=>
  obtain ⟨h1,h3,h4,h5,_⟩:=h
  have e:x.name=tbodyW:=List.mem_singleton.1 h5
  refine ⟨nmok _ (by rw [e];decide),.inr ⟨h3,.inl ⟨e,h4⟩⟩,fun hl=>⟨⟨.tbody,?_,by simp,e,k7 e⟩,.inr (.inr (.inl e))⟩⟩
  exact Path0.in_ (g:=⟨x.name,al,.nil⟩) (by show x.name∉_;rw [e];decide) (by show x.name≠_;rw [e];decide) h1
 |tbody=>
  obtain ⟨h1,h3,h4,h5,_⟩:=h
  have e:x.name=trW:=List.mem_singleton.1 h5
  refine ⟨nmok _ (by rw [e];decide),.inr ⟨h3,.inr (.inl ⟨e,h4⟩)⟩,fun hl=>⟨⟨.tr,?_,by simp,e,k8 e⟩,.inr (.inr (.inr (.inl e)))⟩⟩
  exact Path0.in_ (g:=⟨x.name,al,.nil⟩) (by show x.name∉_;rw [e];decide) (by show x.name≠_;rw [e];decide) h1
 |tr=>
  obtain ⟨h1,h3,h4,h5,_⟩:=h
  have hfm:x.name∉fmtN:=(show∀a∈cellN,a∉fmtN by decide) _ h5
  have hp:x.name≠ [112]:=(show∀a∈cellN,a≠ [112] by decide) _ h5
  have e0:Path0 (⟨x.name,al,.nil⟩::f::fr):=Path0.in_ (g:=⟨x.name,al,.nil⟩) hfm hp h1
  have e1:plainG (⟨x.name,al,.nil⟩::f::fr):=plainG_cell h5
  refine ⟨nmok _ (by simp [h5]),.inr ⟨h3,.inr (.inr ⟨h5,h4⟩)⟩,fun hl=>⟨?_,.inr (.inr (.inr (.inr h5)))⟩⟩
  rcases k9 (.inr h5) with hk|hk
  ·exact ⟨.blocks,e0,e1,(show∀a∈cellN,a∉B.wd (B.setW 5) by decide+kernel) _ h5,hk⟩
  ·exact ⟨.line,e1,hk,fun nm hnm _=>e0.nof nm hnm⟩
end
def addA (f:FE) (a:T.AT):FE:={f with done:=f.done.app (bareN a)}
def endK (sk:Bool):T.AT→Bool
 | .nil=>sk
 | .cons _ _ _=>false
theorem lastH_app: ∀(a b:NT),b≠ .nil→(a.app b).lastH=b.lastH
 | .nil,b,_=>rfl
 | .cons x k .nil,b,h=>by
  cases b with
  |nil=>exact absurd rfl h
  |cons y k' r'=>rfl
 | .cons x k (.cons y k' r),b,h=>by
  have:=lastH_app (.cons y k' r) b h
  exact this
theorem lastH_snoc (a:NT) (x:Hd) (k:NT):(a.snoc x k).lastH=some x:=by
 unfold NT.snoc
 rw [lastH_app _ _ (by simp)];rfl
theorem CtxOk.text {cx:Cx} {f:FE} {fr:List FE} {x:T.Hd} {k r:T.AT} (h:CtxOk cx (f::fr) (.cons x k r)) (hn:x.name= []):plainG (f::fr)∧T.headT r=false:=by
 cases cx with
 |line=>exact ⟨h.1,h.2.1.2.1 hn⟩
 |blocks=>exact absurd h.2.2.2.1 (by rw [hn];decide)
 |list=>exact absurd h.2.2.2.2.1 (by rw [hn];decide)
 |table=>exact absurd h.2.2.2.1 (by rw [hn];decide)
 |tbody=>exact absurd h.2.2.2.1 (by rw [hn];decide)
 |tr=>exact absurd h.2.2.2.1 (by rw [hn];decide)
theorem nextTag_toks {nl:Bool} {r:T.AT} {rest:List Tok} (hr:T.headT r=false) (hn:nextTag rest):nextTag (toksF nl r++rest):=by
 cases r with
 |nil=>exact hn
 |cons x k r=>
  have h:x.name≠ []:=fun he=>by simp [T.headT,he] at hr
  by_cases h2:x.name∈leafN
  ·rw [toks_leaf h h2];exact rfl
  ·rw [toks_open h h2];exact rfl
theorem law: ∀(a:T.AT) (cx:Cx) (f:FE) (fr:List FE) (sk nl:Bool) (rest:List Tok),CtxOk cx (f::fr) a→SA a→(f::fr).length+T.deepA a≤700→nl=(sk && a.feeds)→(T.headT a=true→ ∀x,f.done.lastH=some x→x.kind≠2)→nextTag rest→
  (RunOk rest (addA f a::fr,endK sk a)→RunOk (toksF nl a++rest) (f::fr,sk))∧runT (toksF nl a++rest) (f::fr,sk)=runT rest (addA f a::fr,endK sk a)
 | .nil,cx,f,fr,sk,nl,rest,hc,hs,hd,hnl,hl,hn=>by
  have:addA f .nil=f:=by unfold addA;rw [show bareN .nil= .nil from rfl,NT.app_nil]
  rw [this]
  exact ⟨id,rfl⟩
 | .cons x k r,cx,f,fr,sk,nl,rest,hc,hs,hd,hnl,hl,hn=>by
  simp only [T.deepA] at hd
  obtain ⟨hs1,hsr⟩:=hs
  by_cases hx:x.name= []
  ·obtain ⟨hg,hr⟩:=hc.text hx
   rw [if_pos hx] at hs1
   obtain ⟨t1,t2,t3⟩:=hs1
   have hfeeds:(T.AT.cons x k r).feeds=decide (x.text.head? =some 10):=by
    show (decide (x.name= []) && decide (x.text.head? =some 10))=_
    rw [hx];simp
   rw [hfeeds] at hnl
   obtain ⟨v,hv⟩: ∃v,v=if nl=true then 10::x.text else x.text:=⟨_,rfl⟩
   have etoks:toksF nl (.cons x k r)= .text v::toksF false r:=by rw [toks_text hx,hv]
   have estep:stepT (.text v) (f::fr,sk)=(f.txt x.text::fr,false):=by
    show (f.txt (if sk=true∧v.head? =some 10 then v.tail else v)::fr,false)=_
    congr 3
    rw [hv,hnl]
    cases sk
    ·simp
    ·by_cases h10:x.text.head? =some 10
     ·simp [h10]
     ·simp [h10]
   have hlast: ∀y,f.done.lastH=some y→y.kind≠2:=hl (by simp [T.headT,hx])
   have hok:StepOk (.text v) (f::fr,sk):=by
    refine ⟨by show (f::fr).length≤700;omega,?_,?_,?_,hg,⟨f,fr,rfl,hlast⟩,fun h1 h2=> ?_⟩
    ·rw [hv];split
     ·simp
     ·exact t1
    ·rw [hv];split
     ·intro hm;rcases List.mem_cons.1 hm with h|h
      ·exact absurd h (by decide)
      ·exact t2 h
     ·exact t2
    ·rw [hv];split
     ·simp only [List.length_cons];omega
     ·omega
    ·have h1:sk=true:=h1
     rw [hv] at h2 ⊢
     rw [hnl,h1] at h2 ⊢
     by_cases h10:x.text.head? =some 10
     ·simp [h10];exact t1
     ·simp [h10] at h2
   have ih:=law r cx (f.txt x.text) fr false false rest (hc.tail rfl) hsr (by simp only [List.length_cons] at hd ⊢;omega) (by simp) (fun h=>by rw [hr] at h;cases h) hn
   have eadd:addA (f.txt x.text) r=addA f (.cons x k r):=by
    unfold addA FE.txt FE.add
    rw [bare_text hx]
    show FE.mk f.nm f.al _=FE.mk f.nm f.al _
    congr 1
    exact NT.snoc_app _ _ _ _
   have eend:endK false r=endK sk (.cons x k r):=by cases r<;>rfl
   rw [eadd,eend] at ih
   rw [etoks,List.cons_append]
   refine ⟨fun hh=>⟨hok,fun _=>nextTag_toks hr hn,?_⟩,?_⟩
   ·rw [estep];exact ih.1 hh
   ·show runT (toksF false r++rest) (stepT (.text v) (f::fr,sk))=_
    rw [estep];exact ih.2
  ·rw [if_neg hx] at hs1
   obtain ⟨ha,hk,hsk⟩:=hs1
   obtain ⟨c1,c2,c3⟩:=hc.start hx hk x.attrs
   have hok:StepOk (.start x.name x.attrs) (f::fr,sk):=⟨by simp,by show (f::fr).length≤700;omega,c1,ha,c2⟩
   have eend: ∀s,endK s r=endK sk (.cons x k r)∨s≠false:=fun s=>by cases s<;>cases r<;>simp [endK]
   by_cases hlf:x.name∈leafN
   ·have etoks:toksF nl (.cons x k r)= .start x.name x.attrs::toksF false r:=toks_leaf hx hlf
    have hkn:k= .nil:=hk.2.2.1 hlf
    have estep:stepT (.start x.name x.attrs) (f::fr,sk)=(f.shut ⟨x.name,x.attrs,.nil⟩::fr,false):=by
     show (startF x.name x.attrs (f::fr),decide (x.name=preW))=_
     rw [decide_eq_false ((show∀a∈leafN,a≠preW by decide) _ hlf)]
     congr 1
     exact if_pos hlf
    have hl':T.headT r=true→ ∀y,(f.shut ⟨x.name,x.attrs,.nil⟩).done.lastH=some y→y.kind≠2:=fun _ y hy=>by
     have:(f.shut ⟨x.name,x.attrs,.nil⟩).done.lastH=some (elemH x.name x.attrs):=lastH_snoc _ _ _
     rw [this] at hy;cases hy;show (1:Int)≠2;decide
    have ih:=law r cx (f.shut ⟨x.name,x.attrs,.nil⟩) fr false false rest (hc.tail rfl) hsr (by simp only [List.length_cons] at hd ⊢;omega) (by simp) hl' hn
    have eadd:addA (f.shut ⟨x.name,x.attrs,.nil⟩) r=addA f (.cons x k r):=by
     unfold addA FE.shut FE.add
     rw [bare_elem hx,hkn]
     show FE.mk f.nm f.al _=FE.mk f.nm f.al _
     congr 1
     exact NT.snoc_app _ _ _ _
    rw [eadd,(eend false).resolve_right (by simp)] at ih
    rw [etoks,List.cons_append]
    refine ⟨fun hh=>⟨hok,fun h=>absurd h Bool.false_ne_true,?_⟩,?_⟩
    ·rw [estep];exact ih.1 hh
    ·show runT (toksF false r++rest) (stepT (.start x.name x.attrs) (f::fr,sk))=_
     rw [estep];exact ih.2
   ·obtain ⟨⟨cx',hc'⟩,hend⟩:=c3 hlf
    have etoks:toksF nl (.cons x k r)++rest= .start x.name x.attrs::(toksF (decide (x.name=preW) && k.feeds) k++(.fin x.name::(toksF false r++rest))):=by
     rw [toks_open hx hlf];simp
    have estep:stepT (.start x.name x.attrs) (f::fr,sk)=(⟨x.name,x.attrs,.nil⟩::f::fr,decide (x.name=preW)):=by
     show (startF x.name x.attrs (f::fr),decide (x.name=preW))=_
     congr 1
     exact if_neg hlf
    have ihk:=law k cx' ⟨x.name,x.attrs,.nil⟩ (f::fr) (decide (x.name=preW)) (decide (x.name=preW) && k.feeds) (.fin x.name::(toksF false r++rest)) hc' hsk (by simp only [List.length_cons] at hd ⊢;omega) rfl (fun _ y hy=>by cases hy) rfl
    obtain ⟨g,hg⟩: ∃g,g=addA ⟨x.name,x.attrs,.nil⟩ k:=⟨_,rfl⟩
    have hgn:g.nm=x.name:=by rw [hg];rfl
    have hga:g.al=x.attrs:=by rw [hg];rfl
    have hgd:g.done=bareN k:=by rw [hg];rfl
    rw [←hg] at ihk
    have hl':T.headT r=true→ ∀y,(f.shut g).done.lastH=some y→y.kind≠2:=fun _ y hy=>by
     have:(f.shut g).done.lastH=some (elemH g.nm g.al):=lastH_snoc _ _ _
     rw [this] at hy;cases hy;show (1:Int)≠2;decide
    have ih:=law r cx (f.shut g) fr false false rest (hc.tail rfl) hsr (by simp only [List.length_cons] at hd ⊢;omega) (by simp) hl' hn
    have eadd:addA (f.shut g) r=addA f (.cons x k r):=by
     unfold addA FE.shut FE.add
     rw [hgn,hga,hgd]
     show FE.mk f.nm f.al _=FE.mk f.nm f.al (f.done.app (bareN (.cons x k r)))
     rw [bare_elem hx]
     congr 1
     exact NT.snoc_app _ _ _ _
    rw [eadd,(eend false).resolve_right (by simp)] at ih
    have efin: ∀s,stepT (.fin x.name) (g::f::fr,s)=(f.shut g::fr,false):=fun s=>rfl
    have okfin: ∀s,StepOk (.fin x.name) (g::f::fr,s):=fun s=>by
     refine ⟨by simp only [List.length_cons] at hd ⊢;omega,by simp,hgn,c1,?_⟩
     rcases hend with ⟨h1,h2⟩|h1
     ·exact .inl ⟨h1,plainG_same hgn h2⟩
     ·exact .inr h1
    rw [etoks]
    refine ⟨fun hh=>⟨hok,fun h=>absurd h Bool.false_ne_true,?_⟩,?_⟩
    ·rw [estep]
     refine ihk.1 ⟨okfin _,fun h=>absurd h Bool.false_ne_true,?_⟩
     rw [efin];exact ih.1 hh
    ·show runT (toksF _ k++_) (stepT (.start x.name x.attrs) (f::fr,sk))=_
     rw [estep,ihk.2]
     show runT (toksF false r++rest) (stepT (.fin x.name) (g::f::fr,_))=_
     rw [efin];exact ih.2
theorem flat_toks: ∀(a:T.AT) (nl:Bool),(nl=true→a.feeds=true)→flatT (toksF nl a)=(if nl=true then [10] else [])++a.text
 | .nil,nl,h=>by
  cases nl
  ·rfl
  ·exact absurd (h rfl) (by simp [T.AT.feeds])
 | .cons x k r,nl,h=>by
  have ihr:=flat_toks r false (fun h=>by cases h)
  simp only [Bool.false_eq_true,if_false,List.nil_append] at ihr
  rw [T.AT.text]
  by_cases hx:x.name= []
  ·rw [toks_text hx,if_pos hx]
   unfold flatT at ihr ⊢
   rw [List.flatMap_cons,ihr]
   cases nl
   ·rfl
   ·show T.safeN false (10::x.text)++r.text=_
    have:T.safeN false (10::x.text)=10::T.safeN false x.text:=rfl
    rw [this];rfl
  ·have hnl:nl=false:=by
    cases nl
    ·rfl
    ·have:=h rfl
     simp [T.AT.feeds,hx] at this
   subst hnl
   rw [if_neg hx]
   simp only [Bool.false_eq_true,if_false,List.nil_append]
   by_cases hlf:x.name∈leafN
   ·have h2:x.name=T.nBr∨x.name=T.nHr∨x.name=T.nImg:=(show∀a∈leafN,a=T.nBr∨a=T.nHr∨a=T.nImg by decide) _ hlf
    rw [toks_leaf hx hlf,if_pos h2]
    unfold flatT at ihr ⊢
    rw [List.flatMap_cons,ihr]
    simp [Tok.txt,T.openS]
   ·have h2: ¬(x.name=T.nBr∨x.name=T.nHr∨x.name=T.nImg):=fun h=>hlf (by rcases h with h|h|h<;>rw [h]<;>decide)
    rw [toks_open hx hlf,if_neg h2]
    have ihk:=flat_toks k (decide (x.name=preW) && k.feeds) (fun h=>by simp only [Bool.and_eq_true] at h;exact h.2)
    unfold flatT at ihr ihk ⊢
    rw [List.flatMap_cons,List.flatMap_append,List.flatMap_cons,ihk,ihr]
    have e3:(if (decide (x.name=preW) && k.feeds)=true then [10] else ([]:List UInt8))=if x.name=T.nPre∧k.feeds=true then [10] else []:=by
     have:preW=T.nPre:=rfl
     rw [this]
     simp only [Bool.and_eq_true,decide_eq_true_eq]
    rw [e3]
    simp [Tok.txt,T.openS]
theorem deep_bare: ∀a:T.AT,SA a→deepT (bareN a)≤T.deepA a
 | .nil,_=>Nat.le_refl _
 | .cons x k r,hs=>by
  obtain ⟨hs1,hsr⟩:=hs
  have h2:=deep_bare r hsr
  by_cases hx:x.name= []
  ·rw [bare_text hx]
   simp only [deepT,T.deepA]
   omega
  ·rw [bare_elem hx]
   rw [if_neg hx] at hs1
   have h1:=deep_bare k hs1.2.2
   simp only [deepT,T.deepA]
   omega
theorem parseA_calls {w:World} (a:T.AT) (ho:T.ofA blocksN a) (hs:SA a) (hd:T.deepA a≤200) (hl:a.text.length≤1048576):
  Calls Tryz.prog 9 [.string (bs a.text)].toArray w fun e w'=> ∃vo,e= .returned (.tuple #[vo,.int .i64 0])∧TreeAt w' vo (bareN a)∧(bareN a).size≤10000000∧Chg w w' No:=by
 have hft:=flat_toks a false (fun h=>by cases h)
 simp only [Bool.false_eq_true,if_false,List.nil_append] at hft
 have hc:CtxOk .blocks [rootF] a:=by
  refine ⟨⟨fun g hg=> ?_,fun nm hn hh=> ?_⟩,.inl rfl,by decide+kernel,ho⟩
  ·rw [List.mem_singleton.1 hg];decide
  ·revert hn hh
   have: ∀b∈fmtN,b∉upN [rootF]:=by decide
   exact this nm
 have hlaw:=law a .blocks rootF [] false false [] hc hs (by simp only [List.length_cons,List.length_nil];omega) (by simp) (fun _ x hx=>by cases hx) trivial
 rw [List.append_nil] at hlaw
 have:=parse_calls (w:=w) a.text (toksF false a) hft.symm hl (hlaw.1 trivial) (addA rootF a) (endK false a) hlaw.2 (by have:=deep_bare a hs;show deepT (NT.nil.app (bareN a))≤_;show deepT (bareN a)≤_;omega)
 exact this
theorem AttrS_of {w:World} {v:Value} {l:List T.At} (h:T.AttrS true w v l):AttrS w v (encT l):=by
 have:=h.2 rfl
 unfold AttrS
 rw [encT_len,encT_enc]
 exact this
theorem bareC_calls: ∀(f:Nat) {w:World} {v:Value} {t:T.AT},T.TreeAt true w v t→t.size≤f→f≤100000000000→
  Calls Tryz.prog 12 [v].toArray w fun e w'=> ∃vo,e= .returned vo∧TreeOk w' (fun b=>w.heap.size≤b) (fun _=>True) vo (bareN t)∧Chg w w' No:=by
 intro f
 induction f with
 |zero=>
  intro w v t h hs _
  cases t with
  |cons x k r=>simp [T.AT.size] at hs
  |nil=>
   obtain ⟨A,c,rfl,hc⟩:=h.form
   refine zCz 37 Tryz.func12 ?_
   refine zz ?_
   refine zc_loopW (ι:=Nat) (fun i u=> [(0,.slice A 0 c),(3,.slice none 0 0),(4,.int .i64 0)]) (fun i u=>u=w) (fun i u=>0) 0 rfl ?_ ?_
   ·exact ⟨rfl,rfl,rfl,trivial⟩
   rintro i u hu
   obtain rfl:=hu.symm
   refine zz ?_
   exact zk_ret1 (.inr rfl) rfl rfl ⟨_,rfl,TreeOk.nil,Chg.refl _ _⟩
 |succ f ih=>
  intro w v t h hs hf
  obtain ⟨A,c,hv,hc⟩:=h.form
  have hls:=t.len_size
  subst hv
  refine zCz 37 Tryz.func12 ?_
  refine zz ?_
  refine zc_loopW (ι:=Nat×Value×NT) (fun q u=> [(0,.slice A t.len c),(3,q.2.1),(4,.int .i64 q.1)])
   (fun q u=>q.1≤t.len∧Out w.heap.size (fun _=>True) u q.2.1 q.2.2∧q.2.2.len=q.1∧q.2.2.app (bareN (t.dropN q.1))=bareN t∧Chg w u No) (fun q u=>t.len - q.1) (0,.slice none 0 0,.nil)
   ⟨Nat.zero_le _,Out.nil,rfl,rfl,Chg.refl _ _⟩ ?_ ?_
  ·exact ⟨rfl,rfl,rfl,trivial⟩
  rintro ⟨i,vo,T0⟩ u ⟨hi,hOut,hTl,hd,hC⟩
  dsimp only at hi hOut hTl hd ⊢
  by_cases hlt:i<t.len
  rotate_left
  ·obtain rfl:i=t.len:=by omega
   rw [t.drop_len] at hd
   have hd:T0=bareN t:=by rw [←hd];exact (NT.app_nil _).symm
   subst hd
   refine zz ?_
   exact zk_ret1 (.inr rfl) rfl rfl ⟨_,rfl,hOut.tree,hC⟩
  obtain ⟨b,o,c',x,k,r,A',F',K',e1,hv,hN,hA,hF,hK⟩:=(h.no hC).at_ i hlt
  cases hv
  obtain ⟨FA,Fm,Fc,rfl⟩:=hF
  obtain ⟨AA,cA,rfl,_⟩:=hA.form
  obtain ⟨AK,cK,rfl,_⟩:=hK.form
  have hsz:=t.drop_size i
  rw [e1] at hsz
  simp only [T.AT.size] at hsz
  have edrop:=t.drop_succ i x k r e1
  obtain ⟨A0,c0,hv0,hc0⟩:=hOut.form
  subst hv0
  have hBu:w.heap.size≤u.heap.size:=hC.size
  refine zz ?_
  refine z_loadA (by rfl) (want_L rfl) (by decide) rfl (hN.agg (by omega)) ?_
  refine zAl (fun u1 b5 hN5=> ?_)
  have hb50:Blk u1 b5 43 [.string ⟨#[]⟩,.slice none 0 0,.string ⟨#[]⟩,.slice none 0 0,.slice none 0 0]:=hN5.blk
  have hge5:=hN5.ge (Chg.refl u No)
  refine z_store (want_L rfl) rfl rfl rfl (by assumption) (by first|exact Nat.le_refl _|simp [Value.cells]) (by simp [Value.cells,Value.oneCell']) (fun u2 hU2=> ?_)
  have hb5:Blk u2 b5 43 [.string (bs x.name),.slice AA x.attrs.length cA,.string (bs x.text),.slice FA Fm Fc,.slice AK k.len cK]:=hU2.blk
  have hX2:Chg u u2 No:=hN5.chg.upd hU2 hge5
  have hC2:=hC.no hX2
  have hOut2:=hOut.no hX2
  refine zz ?_
  refine zEq (r:= []) rfl rfl (fun hx=> ?_) (fun hx=> ?_)
  ·refine zz ?_
   refine z_buildE #[.int .i64 2,.int .i64 0,.string ⟨#[]⟩,.slice none 0 0,.string (bs x.text),.int .i64 0,.slice none 0 0] (want_L rfl) (by decide) rfl (by kernel_rfl) ?_
   refine zB1 rfl (fun u3 b3 hN3=> ?_)
   have hx9:HR u2 ⟨2,0,⟨#[]⟩,.slice none 0 0,bs x.text,0,.slice none 0 0⟩ (textH x.text):=⟨rfl,rfl,rfl,AttrS.nil _,rfl,rfl⟩
   have hR:RdS u3 80 7 (.slice (some ⟨b3,0,none⟩) 1 1) 1 (encN [⟨2,0,⟨#[]⟩,.slice none 0 0,bs x.text,0,.slice none 0 0⟩]):=RdS.node (ks:= []) hx9 RdS.nil hN3
   obtain ⟨mz,g1,g2,g3⟩:=hOut2
   have hml:=Rows.len _ mz (RowsOk.rows _ mz g3)
   have hb53:=hb5.no hN3.chg
   refine z_appendO (by rfl) (by decide) (want_L rfl) (by decide) rfl rfl (g1.no hN3.chg) hR (by omega) (by omega) (fun v4 u4 hO4 hX4 hr4=> ?_)
   have hOut4:=Out.push g1 g2 g3 hx9 (by intro hl b hb;trivial) TreeOk.nil (by have:=hX2.size;omega) hN3.chg hO4 hX4 hr4
   obtain ⟨A4,c4,rfl,_⟩:=hO4.rd.form
   have hC4:Chg w u4 No:=(hC2.no hN3.chg).trans hX4 (fun j hj he=>by have:=g2 j he;omega)
   refine zz ?_
   refine zk_loopW (i+1,.slice A4 (mz.length+1) c4,T0.snoc (textH x.text) .nil) ⟨by omega,hOut4,by rw [NT.snoc_len,hTl],?_,hC4⟩ (by show t.len - (i+1)<t.len - i;omega) ⟨rfl,rfl,get_int rfl (by simp),trivial⟩
   dsimp only
   rw [edrop,NT.snoc_app,←bare_text (k:=k) hx,←e1]
   exact hd
  ·refine zN (zK (zF rfl ?_))
   refine zc_draw [] (fun w'=>Blk w' b5 43 [.string (bs x.name),.slice AA x.attrs.length cA,.string (bs x.text),.slice FA Fm Fc,.slice AK k.len cK]) (.take 0 (.take 1 (.take 2 (.take 3 (.take 4 (.take 5 (.take 6 (.all1 7 (.take 8 (.all1 9 (.all1 10 (.take 11 (.fin))))))))))))) (by rfl) (by kernel_rfl) (by kernel_rfl) (fun u3 hC3 _=>⟨?_,?_⟩)
   ·exact hb5.no hC3
   have hX3:=hX2.no hC3
   refine zz ?_
   refine zs_call rfl (want_L rfl) rfl (by decide) rfl (ih ((hK.no hX3)) (by omega) (by omega)) ?_
   rintro _ u4 ⟨vk,rfl,hTk,hC4⟩
   have hX4:=hX3.no hC4
   obtain ⟨Ak,ck,rfl,_⟩:=hTk.at'.form
   refine ⟨_,rfl,hb5.no (hC3.no hC4),?_⟩
   refine zRd rfl rfl (fun _ hS=>r_build' (cells:= #[.int .i64 1,.int .i64 1,.string (bs x.name),.slice AA x.attrs.length cA,.string ⟨#[]⟩,.int .i64 0,.slice Ak (bareN k).len ck]) rfl (by kernel_rfl)) ?_
   refine zs_bs1 rfl (want_L rfl) (by decide) rfl (by rfl) (by rfl) (by decide) (by decide) (fun u5 b3 hN3=> ?_)
   have hb55:=(hb5.no (hC3.no hC4)).no hN3.chg
   refine ⟨hb55,?_⟩
   have ha4:AttrS u4 (.slice AA x.attrs.length cA) (encT x.attrs):=AttrS_of (hA.no hX4)
   have hx9:HR u4 ⟨1,1,bs x.name,.slice AA x.attrs.length cA,⟨#[]⟩,0,.slice Ak (bareN k).len ck⟩ (elemH x.name x.attrs):=⟨rfl,rfl,rfl,ha4,rfl,rfl⟩
   have hTk0:=hTk
   obtain ⟨kz,hk1,_,_⟩:=hTk0
   have hR:RdS u5 80 7 (.slice (some ⟨b3,0,none⟩) 1 1) 1 (encN [⟨1,1,bs x.name,.slice AA x.attrs.length cA,⟨#[]⟩,0,.slice Ak (bareN k).len ck⟩]):=RdS.node hx9 hk1 hN3
   have hOut4:=hOut.no hX4
   obtain ⟨mz,g1,g2,g3⟩:=hOut4
   have hml:=Rows.len _ mz (RowsOk.rows _ mz g3)
   have hs4:=hX4.size
   have hs3:=hX3.size
   have hvlt: ∀k,(Value.slice A0 T0.len c0).ownBlock=some k→k<u.heap.size:=fun k hk=>by obtain ⟨ms,q1,_,_⟩:=hOut;exact q1.lt hk
   refine zs_appendO rfl (by rfl) (by decide) (want_L rfl) (by decide) rfl rfl (g1.no hN3.chg) hR (by omega) (by omega) (fun v6 u6 hO6 hX6 hr6=> ?_)
   have hOut6:=Out.push g1 g2 g3 hx9 (by intro hl b hb;trivial) (hTk.mono (fun b hb hk=>⟨by omega,fun he=>by have:=hvlt b he;omega⟩) (fun b hb hk=>trivial)) (by omega) hN3.chg hO6 hX6 hr6
   refine ⟨hb55.chg hX6 (fun he=>by have:=hvlt _ he;omega),?_⟩
   obtain ⟨A6,c6,rfl,_⟩:=hO6.rd.form
   have hC6:Chg w u6 No:=((hC.no hX4).no hN3.chg).trans hX6 (fun j hj he=>by have:=g2 j he;omega)
   refine zz ?_
   refine zk_loopW (i+1,.slice A6 (mz.length+1) c6,T0.snoc (elemH x.name x.attrs) (bareN k)) ⟨by omega,hOut6,by rw [NT.snoc_len,hTl],?_,hC6⟩ (by show t.len - (i+1)<t.len - i;omega) ⟨rfl,rfl,get_int rfl (by simp),trivial⟩
   dsimp only
   rw [edrop,NT.snoc_app,←bare_elem hx,←e1]
   exact hd
end Go.Proofs.YtbcmiijollpgeaaGreat.D
namespace Go.Proofs.YtbcmiijollpgeaaGreat.T
open Go Go.Z Go.Proofs
def AT.setN:Nat→AT→Hd→AT→AT
 |_,.nil,_,_=> .nil
 |0,.cons _ _ r,x,k=> .cons x k r
 |i+1,.cons y q r,x,k=> .cons y q (AT.setN i r x k)
theorem AT.setN_wt: ∀(i:Nat) (t:AT) (x:Hd) (k:AT) (y:Hd) (q r:AT),t.dropN i= .cons y q r→
  (t.setN i x k).wt+(2*y.name.length+attrsN y.attrs+6*y.text.length+10+q.wt)=t.wt+(2*x.name.length+attrsN x.attrs+6*x.text.length+10+k.wt)
 |0,.cons y q r,x,k,y',q',r',h=>by
  have h':AT.cons y q r= .cons y' q' r':=h
  cases h'
  simp only [AT.setN,AT.wt];omega
 |0,.nil,x,k,y,q,r,h=>by cases h
 |i+1,.nil,x,k,y,q,r,h=>by cases h
 |i+1,.cons z p s,x,k,y,q,r,h=>by
  have:=AT.setN_wt i s x k y q r h
  simp only [AT.setN,AT.wt];omega
theorem Rows.set {s:Bool} {w:World}: ∀(i:Nat) (t:AT) (ms:List MA) (m:MA) (x:Hd) (k:AT),Rows s w t ms→i<t.len→HR s w m x→TreeAt s w m.kids k→Rows s w (t.setN i x k) (ms.set i m)
 |0,.cons y q r,ms,m,x,k,h,hi,hm,hk=>by
  obtain ⟨m0,p,rfl,h2,h3,h4⟩:=h
  exact ⟨m,p,rfl,hm,hk,h4⟩
 |i+1,.cons y q r,ms,m,x,k,h,hi,hm,hk=>by
  obtain ⟨m0,p,rfl,h2,h3,h4⟩:=h
  exact ⟨m0,p.set i m,rfl,h2,h3,Rows.set i r p m x k h4 (by simp only [AT.len] at hi;omega) hm hk⟩
 |0,.nil,ms,m,x,k,h,hi,hm,hk=>by simp [AT.len] at hi
 |i+1,.nil,ms,m,x,k,h,hi,hm,hk=>by simp [AT.len] at hi
theorem encM_set (m:MA): ∀(ms:List MA) (i:Nat),i<ms.length→Z.lay (encM ms) (i*5) m.cells=encM (ms.set i m)
 | [],i,h=>by simp at h
 |a::r,0,h=>by simp [Z.lay,encM,MA.cells]
 |a::r,i+1,h=>by
  have ih:=encM_set m r i (by simpa using h)
  have e:(i+1)*5=i*5+1+1+1+1+1:=by omega
  simp only [Z.lay,encM,List.set_cons_succ,MA.cells,List.length_cons,List.length_nil] at ih ⊢
  rw [←ih,e]
  simp [Nat.add_assoc]
theorem own_setM {w:World} {b c:Nat} {ms:List MA} (h:Own w 43 5 (.slice (some ⟨b,0,none⟩) ms.length c) ms.length (encM ms)) (i:Nat) (hi:i<ms.length) (m:MA) (h1: ∀u∈m.cells,u.oneCell'=true):
  ∃cells:List Value,Blk w b 43 cells∧i*5+5≤cells.length∧ ∀w',Upd w w' b 43 (Z.lay cells (i*5) m.cells)→Own w' 43 5 (.slice (some ⟨b,0,none⟩) ms.length c) ms.length (encM (ms.set i m)):=by
 have hl:=encM_len ms
 obtain ⟨cells,h2,h3,_,h5⟩:=Own.lay (o:=i*5) (vs:=m.cells) h (by rw [hl];simp only [MA.cells,List.length_cons,List.length_nil];omega) h1
 refine ⟨cells,h2,by simpa [MA.cells] using h3,fun w' hU=> ?_⟩
 have:=h5 w' hU
 rwa [encM_set m ms i hi] at this
theorem own_zero {w:World} {b o c:Nat} {ms:List MA} (h:Own w 43 5 (.slice (some ⟨b,o,none⟩) ms.length c) ms.length (encM ms)):o=0:=by
 rcases h.cases.2 with ⟨hv,_⟩|⟨b',cap,junk,hv,_⟩
 ·cases hv
 ·cases hv;rfl
theorem RowsOk.set {w:World} {o:Nat→Prop}: ∀(i:Nat) (t:AT) (ms:List MA) (m:MA) (x:Hd) (k:AT),RowsOk w o t ms→i<t.len→HO w m x→TreeOk w o m.kids k→RowsOk w o (t.setN i x k) (ms.set i m)
 |0,.cons y q r,ms,m,x,k,h,hi,hm,hk=>by
  obtain ⟨m0,p,rfl,h2,h3,h4⟩:=h
  exact ⟨m,p,rfl,hm,hk,h4⟩
 |i+1,.cons y q r,ms,m,x,k,h,hi,hm,hk=>by
  obtain ⟨m0,p,rfl,h2,h3,h4⟩:=h
  exact ⟨m0,p.set i m,rfl,h2,h3,RowsOk.set i r p m x k h4 (by simp only [AT.len] at hi;omega) hm hk⟩
 |0,.nil,ms,m,x,k,h,hi,hm,hk=>by simp [AT.len] at hi
 |i+1,.nil,ms,m,x,k,h,hi,hm,hk=>by simp [AT.len] at hi
theorem RowsOk.at_ {w:World} {o:Nat→Prop}: ∀(t:AT) (ms:List MA) (i:Nat),RowsOk w o t ms→i<t.len→ ∃x k r,t.dropN i= .cons x k r∧HO w (ms.getD i MA.z) x∧TreeOk w o (ms.getD i MA.z).kids k
 | .nil,ms,i,h,hi=>by simp [AT.len] at hi
 | .cons x k r,ms,0,h,hi=>by
  obtain ⟨m,q,rfl,h2,h3,h5⟩:=h
  exact ⟨x,k,r,rfl,h2,h3⟩
 | .cons x k r,ms,i+1,h,hi=>by
  obtain ⟨m,q,rfl,h2,h3,h5⟩:=h
  exact RowsOk.at_ r q i h5 (by simp only [AT.len] at hi;omega)
theorem rowOk_at {w:World} {o:Nat→Prop} {v:Value} {t:AT} {ms:List MA} (h1:RdS w 43 5 v ms.length (encM ms)) (h2:RowsOk w o t ms) (i:Nat) (hi:i<t.len): ∃b o' c x k r A F K,t.dropN i= .cons x k r∧v= .slice (some ⟨b,o',none⟩) t.len c∧ArtC w b (o'+i*5) x A F K∧AtS w A x.attrs∧isSl F∧TreeOk w o K k:=by
 have hlen:=Rows.len t ms (RowsOk.rows t ms h2)
 obtain ⟨b,o',c,hv,_,hc⟩:=RdS.some h1 (by omega)
 obtain ⟨x,k,r,e1,⟨g0,g1,g2,g3⟩,e3⟩:=RowsOk.at_ t ms i h2 hi
 have hg:=encM_get ms i (by omega)
 refine ⟨b,o',c,x,k,r,(ms.getD i MA.z).attrs,(ms.getD i MA.z).fr,(ms.getD i MA.z).kids,e1,by rw [hv,hlen],?_,g1,g3,e3⟩
 constructor
 ·have:=hc _ _ (hg 0 _ rfl);rw [←g0];exact this
 ·have:=hc _ _ (hg 1 _ rfl);rw [Nat.add_assoc];exact this
 ·have:=hc _ _ (hg 2 _ rfl);rw [←g2];rw [Nat.add_assoc];exact this
 ·have:=hc _ _ (hg 3 _ rfl);rw [Nat.add_assoc];exact this
 ·have:=hc _ _ (hg 4 _ rfl);rw [Nat.add_assoc];exact this
def wtH (x:Hd) (k:AT):Nat:=2*x.name.length+attrsN x.attrs+6*x.text.length+10+k.wt
def sJv:List UInt8:= [106,97,118,97,115,99,114,105,112,116,58,49]
def sOnc:List UInt8:= [111,110,99,108,105,99,107]
def lKeyT:List (List UInt8):=lKey++ [sOnc]
def lValT:List (List UInt8):=lVal++ [[120],sJv]
def AtsT (l:List At):Prop:=(l.map (·.1)).Nodup∧l.length≤4∧ ∀a∈l,a.1∈lKeyT∧a.2∈lValT
def HdT (x:Hd):Prop:=AtsT x.attrs∧x.text.length≤20
def AT.okT:AT→Prop
 | .nil=>True
 | .cons x k r=>HdT x∧k.okT∧r.okT
theorem AtsT_of {l:List At} (h1:LN l) (h2: ∀a∈l,a.1∈lKey∧a.2∈lVal):AtsT l:=by
 refine ⟨h1.2,by have:=h1.1;omega,fun a ha=> ?_⟩
 exact ⟨List.mem_append_left _ (h2 a ha).1,List.mem_append_left _ (h2 a ha).2⟩
theorem HdT_of {x:Hd} (h:HdOk x):HdT x:=⟨AtsT_of h.2.1 h.2.2.1,by have:=tx_len _ h.2.2.2;omega⟩
theorem AT.okT_of: ∀t:AT,t.ok→t.okT
 | .nil,_=>trivial
 | .cons x k r,⟨h1,h2,h3⟩=>⟨HdT_of h1,AT.okT_of k h2,AT.okT_of r h3⟩
theorem AT.okT_app: ∀t q:AT,t.okT→q.okT→(t.app q).okT
 | .nil,q,_,h=>h
 | .cons x k r,q,⟨h1,h2,h3⟩,h=>⟨h1,h2,AT.okT_app r q h3 h⟩
theorem AT.okT_set: ∀(i:Nat) (t:AT) (x:Hd) (k:AT),t.okT→HdT x→k.okT→(t.setN i x k).okT
 |0,.nil,_,_,_,_,_=>trivial
 |_+1,.nil,_,_,_,_,_=>trivial
 |0,.cons _ _ r,x,k,⟨_,_,h3⟩,hx,hk=>⟨hx,hk,h3⟩
 |i+1,.cons y q r,x,k,⟨h1,h2,h3⟩,hx,hk=>⟨h1,h2,AT.okT_set i r x k h3 hx hk⟩
theorem deep_app: ∀t q:AT,deepA (t.app q)=max (deepA t) (deepA q)
 | .nil,q=>by simp [AT.app,deepA]
 | .cons x k r,q=>by have:=deep_app r q;simp only [AT.app,deepA];omega
theorem deep_set: ∀(i:Nat) (t:AT) (x:Hd) (k:AT),deepA (t.setN i x k)≤max (deepA t) (1+deepA k)
 |_,.nil,_,_=>by simp [AT.setN,deepA]
 |0,.cons y q r,x,k=>by simp only [AT.setN,deepA];omega
 |i+1,.cons y q r,x,k=>by have:=deep_set i r x k;simp only [AT.setN,deepA];omega
theorem deep_at: ∀(i:Nat) (t:AT) (x:Hd) (k r:AT),t.dropN i= .cons x k r→1+deepA k≤deepA t
 |0,.nil,x,k,r,h=>by cases h
 |0,.cons _ _ _,x,k,r,h=>by cases h;simp only [deepA];omega
 |i+1,.nil,x,k,r,h=>by cases h
 |i+1,.cons y q s,x,k,r,h=>by have:=deep_at i s x k r h;simp only [deepA];omega
theorem ok_at: ∀(i:Nat) (t:AT) (x:Hd) (k r:AT),t.ok→t.dropN i= .cons x k r→HdOk x∧k.ok
 |0,.nil,x,k,r,_,h=>by cases h
 |0,.cons _ _ _,x,k,r,ho,h=>by cases h;exact ⟨ho.1,ho.2.1⟩
 |i+1,.nil,x,k,r,_,h=>by cases h
 |i+1,.cons y q s,x,k,r,ho,h=>ok_at i s x k r ho.2.2 h
theorem AtsT_push {l:List At} (h1:LN l) (h2: ∀a∈l,a.1∈lKey∧a.2∈lVal):AtsT (l++ [(sOnc,[120])]):=by
 have hk: ∀n∈lKey,n≠sOnc:=by decide+kernel
 refine ⟨?_,by rw [List.length_append];have:=h1.1;simp;omega,fun a ha=> ?_⟩
 ·rw [List.map_append,List.nodup_append]
  refine ⟨h1.2,by simp,fun a ha b hb=> ?_⟩
  obtain ⟨y,hy,rfl⟩:=List.mem_map.1 ha
  simp only [List.map_cons,List.map_nil,List.mem_singleton] at hb
  subst hb
  exact hk _ (h2 y hy).1
 ·rcases List.mem_append.1 ha with ha|ha
  ·exact ⟨List.mem_append_left _ (h2 a ha).1,List.mem_append_left _ (h2 a ha).2⟩
  ·rw [List.mem_singleton] at ha;subst ha
   exact ⟨List.mem_append_right _ (by simp),List.mem_append_right _ (by simp)⟩
theorem AtsT_head {a0:At} {l:List At} (h1:LN (a0::l)) (h2: ∀a∈a0::l,a.1∈lKey∧a.2∈lVal):AtsT ((a0.1,sJv)::l):=by
 have h:=AtsT_of h1 h2
 refine ⟨h.1,h.2.1,fun a ha=> ?_⟩
 rcases List.mem_cons.1 ha with rfl|ha
 ·exact ⟨(h.2.2 a0 List.mem_cons_self).1,List.mem_append_right _ (by simp)⟩
 ·exact h.2.2 a (List.mem_cons_of_mem _ ha)
def TurnC (f:Nat):Prop:= ∀{w:World} {B bt:Nat} {v:Value} {ob:Nat→Prop} (t:AT),t.size≤f→Tp w B bt→TreeOk w ob v t→t.ok→t.wt≤300000000000→
 Calls Tryz.prog 13 [v,.pointer (some ⟨bt,0,none⟩)].toArray w fun e w'=> ∃v' t',e= .returned v'∧TreeOk w' (fun b=>ob b∨w.heap.size≤b) v' t'∧t'.wt≤2*t.wt+200∧Tp w' B bt∧Chg w w' (· =bt)∧t'.okT∧deepA t'≤deepA t+1
theorem wt_at {t:AT} {i:Nat} {x:Hd} {k r:AT} (h:t.dropN i= .cons x k r):wtH x k≤t.wt:=by
 have:=t.drop_text i
 rw [h] at this
 simp only [AT.wt] at this
 unfold wtH;omega
theorem drop_some: ∀(i:Nat) (t:AT) (x:Hd) (k r:AT),t.dropN i= .cons x k r→i<t.len
 |0,.cons _ _ _,x,k,r,h=>by simp [AT.len]
 |0,.nil,x,k,r,h=>by cases h
 |i+1,.nil,x,k,r,h=>by cases h
 |i+1,.cons _ _ s,x,k,r,h=>by have:=drop_some i s x k r h;simp only [AT.len];omega
structure TM where
 x:Hd
 k:AT
 A:Value
 F:Value
 K:Value
 vo:Value
 ms:List MA
 t:AT
 r:AT
structure TMid (ob:Nat→Prop) (w u:World) (B bt b7 i:Nat) (x0:Hd) (k0 t0:AT) (q:TM):Prop where
 blk:Blk u b7 43 [.string (bs q.x.name),q.A,.string (bs q.x.text),q.F,q.K]
 a:AtS u q.A q.x.attrs
 f:isSl q.F
 k:TreeOk u (fun b=>q.vo.ownBlock≠some b∧(ob b∨w.heap.size≤b)) q.K q.k
 own:Own u 43 5 q.vo q.ms.length (encM q.ms)
 rows:RowsOk u (fun b=>q.vo.ownBlock≠some b∧(ob b∨w.heap.size≤b)) q.t q.ms
 at_:q.t.dropN i= .cons x0 k0 q.r
 ge: ∀k,q.vo.ownBlock=some k→w.heap.size≤k∧k≠b7
 wt:q.t.wt+wtH q.x q.k≤2*t0.wt+200+wtH x0 k0
 tp:Tp u B bt
 chg:Chg w u (· =bt)
 okt:q.t.okT∧deepA q.t≤deepA t0+1∧HdT q.x∧q.k.okT∧deepA q.k≤deepA t0
def mX:MA:=⟨[],nS,[120],nS,nS⟩
theorem dropN_app: ∀(i:Nat) (t q:AT) (x:Hd) (k r:AT),t.dropN i= .cons x k r→(t.app q).dropN i= .cons x k (r.app q)
 |0,.cons _ _ _,q,x,k,r,h=>by cases h;rfl
 |0,.nil,q,x,k,r,h=>by cases h
 |i+1,.nil,q,x,k,r,h=>by cases h
 |i+1,.cons _ _ s,q,x,k,r,h=>dropN_app i s q x k r h
def lnV:List UInt8:= [112,32,104,49,32,104,50,32,108,105,32,116,100,32,116,97,98,108,101,32,116,98,111,100,121,32,100,105,118,32,97,32,101,109,32,98,114,32,104,114,32,105,109,103]
def lnT:List (List UInt8):=wordsN [] lnV
theorem lnT_len:lnT.length=13:=by decide+kernel
theorem lnT_nm: ∀x∈lnT,x.length≤10:=by decide+kernel
theorem attrsN_app: ∀l r:List At,attrsN (l++r)=attrsN l+attrsN r
 | [],r=>by simp [attrsN]
 |a::l,r=>by have:=attrsN_app l r;simp only [List.cons_append,attrsN,this];omega
theorem turn_body (f:Nat) (ih: ∀g,f=g+1→TurnC g):TurnC f:=by
 intro w B bt v ob t hs hT0 h hok0 hl
 have hokT:=AT.okT_of t hok0
 obtain ⟨ms,hr,_,hR⟩:=h
 have hlen:=Rows.len t ms (RowsOk.rows t ms hR)
 obtain ⟨A,c,rfl,hc⟩:=hr.form
 have hlw:=len_wt t
 have hbtlt:=hT0.lt
 have hbtge:=hT0.ge
 refine zCz 97 Tryz.func13 ?_
 refine zz ?_
 refine z_bs0 (want_L rfl) (by decide) (fun y1 b1 hN1=> ?_)
 have hE1:Own y1 43 5 (.slice (some ⟨b1,0,none⟩) 0 0) 0 []:=Own.empty hN1
 refine zP rfl ?_
 refine z_appendO (by rfl) (by decide) (want_L rfl) (by decide) rfl rfl hE1 (hr.no hN1.chg) (by omega) (by omega) (fun vo y2 hO2 hX2 hr2=> ?_)
 have hX:Chg w y2 No:=hN1.chg.trans hX2 (fun k hk he=>by simp only [Value.ownBlock,Option.some.injEq] at he;have:=hN1.at_;omega)
 have hge: ∀k,vo.ownBlock=some k→w.heap.size≤k:=fun k hk=>by
  rcases hr2 with e1|⟨q,e1,e2⟩
  ·rw [e1] at hk;simp only [Value.ownBlock,Option.some.injEq] at hk;have:=hN1.at_;omega
  ·rw [hk] at e1;cases e1;have:=hN1.chg.size;omega
 rw [List.nil_append,Nat.zero_add] at hO2
 obtain ⟨Ao,co,hvo,hco⟩:=hO2.rd.form
 subst hvo
 have hR2:=RowsOk.chg hX (fun _ _ _ _=>id) (fun _ _ _=>id) t ms hR
 have hT2:=hT0.no hX
 by_cases h0:ms.length=0
 ·refine zz ?_
  refine z_buildE #[.string (bs nLi),nS,.string (bs []),nS,nS] (want_L rfl) (by decide) rfl (by kernel_rfl) ?_
  refine z_bsE (encM [mE nLi nS]) (want_L rfl) (by decide) rfl (by decide) (by decide) (by kernel_rfl) (fun y3 b3 hN3=> ?_)
  have ht3:TreeAt true y3 (.slice (some ⟨b3,0,none⟩) 1 1) (aN nLi .nil):=tree_new hN3 (rows_cons (nm:=nLi) (tx:= []) (AttrS.nil _) TreeAt.nil rows_nil)
  have hw3:(aN nLi .nil).wt≤200:=by decide
  have hok3:TreeOk y3 (fun b=>ob b∨w.heap.size≤b) (.slice (some ⟨b3,0,none⟩) 1 1) (aN nLi .nil):=⟨[mE nLi nS],RdS.art (x:=⟨nLi,[],[]⟩) (m:=mE nLi nS) ⟨rfl,AtS.nil _,rfl,isSl_nil⟩ (TreeOk.nil (o:=fun _=>True)) hN3,fun _ b hb=>by simp only [Value.ownBlock,Option.some.injEq] at hb;subst hb;exact .inr (by have:=hX.size;have:=hN3.at_;omega),mE nLi nS,[],rfl,⟨rfl,AtS.nil _,rfl,isSl_nil⟩,⟨[],RdS.nil,fun h=>absurd h (Nat.lt_irrefl 0),rfl⟩,rfl⟩
  refine zz ?_
  exact zk_ret1 (.inr rfl) rfl rfl ⟨_,_,rfl,hok3,by omega,hT2.no hN3.chg,(hX.no hN3.chg).mono (fun _ _ h=>h.elim),⟨⟨⟨by decide,by decide,by decide⟩,by decide⟩,trivial,trivial⟩,by show 1≤_;omega⟩
 refine zz ?_
 refine zCl rfl (next_calls hT2 ms.length (by omega) (by omega) rfl) ?_
 rintro _ y3 ⟨⟨i,hi,rfl⟩,hT3,hX3⟩
 refine ⟨_,rfl,?_⟩
 have hO3:Own y3 43 5 (.slice Ao ms.length co) ms.length (encM ms):=hO2.chg hX3 (fun k hk he=>by obtain ⟨cs,hb⟩:=hT2.blk;exact hO2.ne hk hb (by decide) he)
 obtain ⟨cbt,hbbt⟩:=hT2.blk
 have hR3:RowsOk y3 (fun b=>(Value.slice Ao ms.length co).ownBlock≠some b∧ob b∧b<w.heap.size) t ms:=RowsOk.chg hX3 (fun b cs hb _ he=>hb.ne hbbt (by decide) he) (fun b cs hb he=>hb.ne hbbt (by decide) he) t ms
  (RowsOk.chg hX (fun _ _ _ _=>id) (fun _ _ _=>id) t ms (RowsOk.mono (fun b hb ho=>⟨fun he=>by have:=hge b he;omega,ho,hb⟩) t ms hR))
 have hX03:Chg w y3 (· =bt):=(hX.mono (S':=(· =bt)) (fun _ _ h=>h.elim)).trans hX3 (fun _ _ h=>h)
 obtain ⟨b',o,c',x,k,r,A',F,K,e1,hv,hN,hA,hF,hK⟩:=rowOk_at hO3.rd hR3 i (by omega)
 rw [←hlen] at hv
 cases hv
 obtain rfl:=own_zero hO3
 have hwx:=wt_at e1
 obtain ⟨hxo,hko⟩:=ok_at i t x k r hok0 e1
 have hdk:=deep_at i t x k r e1
 have hxT:=HdT_of hxo
 have hkT:=AT.okT_of k hko
 have hd:=e1
 obtain ⟨A2,c2,rfl,_⟩:=hA.form
 obtain ⟨A3,m3,c3,rfl⟩:=hF
 obtain ⟨A4,c4,rfl,_⟩:=hK.form
 refine zz ?_
 refine z_loadA (by rfl) (want_L rfl) (by decide) rfl (hN.agg (by omega)) ?_
 refine zAl (fun y4 b7 hN4=> ?_)
 have hb74:Blk y4 b7 43 [.string ⟨#[]⟩,nS,.string ⟨#[]⟩,nS,nS]:=hN4.blk
 refine z_store (want_L rfl) rfl rfl rfl (by assumption) (by first|exact Nat.le_refl _|simp [Value.cells]) (by simp [Value.cells,Value.oneCell']) (fun y5 hU5=> ?_)
 have hb75:Blk y5 b7 43 [.string (bs x.name),.slice A2 x.attrs.length c2,.string (bs x.text),.slice A3 m3 c3,.slice A4 k.len c4]:=hU5.blk
 refine zz ?_
 have hX5:Chg y3 y5 No:=hN4.chg.upd hU5 (hN4.ge (Chg.refl _ No))
 have hb7ge:y3.heap.size≤b7:=hN4.ge (Chg.refl _ No)
 have hT5:=hT3.no hX5
 refine zCl rfl (next_calls hT5 12 (by decide) (by decide) rfl) ?_
 rintro _ y6 ⟨⟨kk,hkk,rfl⟩,hT6,hX6⟩
 refine ⟨_,rfl,?_⟩
 have hb76:=keepT hT5 hX6 _ _ _ (by decide) hb75
 have hX36:Chg y3 y6 (· =bt):=(hX5.mono (S':=(· =bt)) (fun _ _ h=>h.elim)).trans hX6 (fun _ _ h=>h)
 refine zN (zK ?_)
 refine zc_midTX (ι:=TM) (fun q u=>TMid ob w u B bt b7 i x k t q) (fun q=> [(1,.pointer (some ⟨bt,0,none⟩)),(5,q.vo),(6,.int .i64 i),(7,.pointer (some ⟨b7,0,none⟩))]) ?_ ?_
 rotate_left
 ·rintro q u hM
  obtain ⟨qx,qk,qA,qF,qK,qvo,qms,qt,qr⟩:=q
  obtain ⟨hB,hqA,hqF,hqK,hqO,hqR,hat,hqge,hwt,hTu,hCu,hok1,hok2,hok3,hok4,hok5⟩:=hM
  dsimp only at hB hqA hqF hqK hqO hqR hat hqge hwt hTu hCu hok1 hok2 hok3 hok4 hok5 ⊢
  have hil:=drop_some i qt x k qr hat
  have hql:=Rows.len qt qms (RowsOk.rows qt qms hqR)
  obtain ⟨qA1,qc1,rfl,_⟩:=hqA.form
  obtain ⟨qF1,qm1,qf1,rfl⟩:=hqF
  obtain ⟨qK1,qk1,rfl,_⟩:=hqK.form
  obtain ⟨bo,cq,rfl⟩: ∃bo cq,qvo= .slice (some ⟨bo,0,none⟩) qms.length cq:=by
   rcases hqO.cases.2 with ⟨_,h0',_⟩|⟨b2,cap,junk,hv2,_⟩
   ·omega
   ·exact ⟨b2,cap,hv2⟩
  obtain ⟨cells,hbo,hfit,hup⟩:=own_setM hqO i (by omega) ⟨qx.name,.slice qA1 qx.attrs.length qc1,qx.text,.slice qF1 qm1 qf1,.slice qK1 qk.len qk1⟩ (by simp [MA.cells,Value.oneCell'])
  have hgo:=hqge bo rfl
  refine zz ?_
  refine z_store (want_L rfl) rfl rfl (by rfl) hbo (by omega) (by simp [Value.cells,Value.oneCell']) (fun u2 hU2=> ?_)
  have e0:0+((i:Int)).toNat*5=i*5:=by omega
  rw [e0] at hU2
  have hO2:=hup u2 hU2
  have hne: ∀b' cs,Blk u b' 43 cs→((Value.slice (some ⟨bo,0,none⟩) qms.length cq).ownBlock≠some b'∧(ob b'∨w.heap.size≤b'))→ ¬b'=bo:=fun b' cs _ hq he=>hq.1 (by rw [he];rfl)
  have h33: ∀b' cs,Blk u b' 45 cs→ ¬b'=bo:=fun b' cs hb' he=>hb'.ne hbo (by decide) he
  have hR2':=RowsOk.chg hU2.chg hne h33 _ _ hqR
  have hK2:=hqK.chg hU2.chg hne h33
  have hA2:AtS u2 (.slice qA1 qx.attrs.length qc1) qx.attrs:=RdS.chg hqA hU2.chg (fun b' cs hb' he=>h33 b' cs hb' he)
  have hRs:=RowsOk.set i qt qms ⟨qx.name,.slice qA1 qx.attrs.length qc1,qx.text,.slice qF1 qm1 qf1,.slice qK1 qk.len qk1⟩ qx qk hR2' hil ⟨rfl,hA2,rfl,⟨_,_,_,rfl⟩⟩ hK2
  have hwt2:=AT.setN_wt i qt qx qk x k qr hat
  unfold wtH at hwt
  refine zz ?_
  exact zk_ret1 (.inr rfl) rfl rfl ⟨_,qt.setN i qx qk,rfl,⟨qms.set i _,by rw [List.length_set];exact hO2.rd,fun _ b hb=>by simp only [Value.ownBlock,Option.some.injEq] at hb;subst hb;exact .inr hgo.1,RowsOk.mono (fun b _ hb=>hb.2) _ _ hRs⟩,by omega,hTu.oth hU2.chg (fun he=>by obtain ⟨cs,hb⟩:=hTu.blk;exact hb.ne hbo (by decide) he) (fun k _ hk=>by omega),hCu.trans hU2.chg (fun k hk he=>by omega),AT.okT_set i qt qx qk hok1 hok3 hok4,by have:=deep_set i qt qx qk;omega⟩
 have hX06:Chg w y6 (· =bt):=hX03.trans hX36 (fun _ _ h=>h)
 have hs06:=hX06.size
 have hs03:=hX03.size
 have hA6:AtS y6 (.slice A2 x.attrs.length c2) x.attrs:=AtS.tp (RdS.no hA hX5) hT5 hX6
 have hK6:=((hK.no hX5).tp hT5 hX6)
 have hO5:=hO3.no hX5
 have hO6:Own y6 43 5 (.slice (some ⟨b',0,none⟩) ms.length co) ms.length (encM ms):=hO5.chg hX6 (fun k hk he=>by obtain ⟨cs,hb⟩:=hT5.blk;exact hO5.ne hk hb (by decide) he)
 have hR6:RowsOk y6 (fun b=>(Value.slice (some ⟨b',0,none⟩) ms.length co).ownBlock≠some b∧ob b∧b<w.heap.size) t ms:=RowsOk.chg hX6 (fun b cs hb _ he=>by obtain ⟨cs2,hb2⟩:=hT5.blk;exact hb.ne hb2 (by decide) he) (fun b cs hb he=>by obtain ⟨cs2,hb2⟩:=hT5.blk;exact hb.ne hb2 (by decide) he) t ms
  (RowsOk.chg hX5 (fun _ _ _ _=>id) (fun _ _ _=>id) t ms hR3)
 have hgo:w.heap.size≤b'∧b'≠b7:=⟨hge b' rfl,by have:=hO3.lt (k:=b') rfl;omega⟩
 have hge6: ∀k,(Value.slice (some ⟨b',0,none⟩) ms.length co).ownBlock=some k→w.heap.size≤k∧k≠b7:=fun k hk=>by simp only [Value.ownBlock,Option.some.injEq] at hk;subst hk;exact hgo
 have hb'6:b'<y6.heap.size:=hO6.lt rfl
 have hb7lt:b7<y6.heap.size:=hb76.lt
 have hfin: ∀{u:World},Chg y6 u (fun z=>z=bt∨z=b7)→Own u 43 5 (.slice (some ⟨b',0,none⟩) ms.length co) ms.length (encM ms)∧
   RowsOk u (fun b=>(Value.slice (some ⟨b',0,none⟩) ms.length co).ownBlock≠some b∧ob b∧b<w.heap.size) t ms∧
   TreeOk u (fun b=>(Value.slice (some ⟨b',0,none⟩) ms.length co).ownBlock≠some b∧ob b∧b<w.heap.size) (.slice A4 k.len c4) k∧AtS u (.slice A2 x.attrs.length c2) x.attrs∧Chg w u (· =bt):=fun {u} hS=>by
  obtain ⟨cs2,hb2⟩:=hT6.blk
  have e8: ∀b cells,Blk y6 b 43 cells→((Value.slice (some ⟨b',0,none⟩) ms.length co).ownBlock≠some b∧ob b∧b<w.heap.size)→ ¬(b=bt∨b=b7):=fun b cells hb ho he=>by
   rcases he with he|he
   ·exact hb.ne hb2 (by decide) he
   ·have:=ho.2.2;omega
  have e3: ∀b cells,Blk y6 b 45 cells→ ¬(b=bt∨b=b7):=fun b cells hb he=>by
   rcases he with he|he
   ·exact hb.ne hb2 (by decide) he
   ·exact hb.ne hb76 (by decide) he
  refine ⟨hO6.chg hS (fun k hk he=> ?_),RowsOk.chg hS e8 e3 t ms hR6,hK6.chg hS e8 e3,RdS.chgAt hA6 hS (fun _ b cells _ hb=>e3 b cells hb),hX06.trans hS (fun z hz he=> ?_)⟩
  ·rcases he with he|he
   ·exact hO6.ne hk hb2 (by decide) he
   ·exact (hge6 k hk).2 he
  ·rcases he with he|he
   ·exact he
   ·omega
 have hweakR: ∀{u:World},RowsOk u (fun b=>(Value.slice (some ⟨b',0,none⟩) ms.length co).ownBlock≠some b∧ob b∧b<w.heap.size) t ms→RowsOk u (fun b=>(Value.slice (some ⟨b',0,none⟩) ms.length co).ownBlock≠some b∧(ob b∨w.heap.size≤b)) t ms:=fun {u} h=>RowsOk.mono (fun b _ h=>⟨h.1,.inl h.2.1⟩) t ms h
 have hweakK: ∀{u:World} {v:Value} {k:AT},TreeOk u (fun b=>(Value.slice (some ⟨b',0,none⟩) ms.length co).ownBlock≠some b∧ob b∧b<w.heap.size) v k→TreeOk u (fun b=>(Value.slice (some ⟨b',0,none⟩) ms.length co).ownBlock≠some b∧(ob b∨w.heap.size≤b)) v k:=fun {u v k} h=>h.mono (fun b _ h=>⟨h.1,.inl h.2.1⟩)
 have hno: ∀{u1 u:World},Chg u1 u No→Chg u1 u (fun z=>z=bt∨z=b7):=fun h=>h.mono (fun _ _ h=>h.elim)
 have h7w: ∀{u1 u:World},Chg u1 u (· =b7)→Chg u1 u (fun z=>z=bt∨z=b7):=fun h=>h.mono (fun _ _ h=> .inr h)
 have htw: ∀{u1 u:World},Chg u1 u (· =bt)→Chg u1 u (fun z=>z=bt∨z=b7):=fun h=>h.mono (fun _ _ h=> .inl h)
 have hjoin: ∀{u1 u2 u:World},Chg u1 u2 (fun z=>z=bt∨z=b7)→Chg u2 u (fun z=>z=bt∨z=b7)→Chg u1 u (fun z=>z=bt∨z=b7):=fun h h'=>h.trans h' (fun _ _ h=>h)
 have htp7: ∀{u1 u2:World},Tp u1 B bt→Chg u1 u2 (· =b7)→Tp u2 B bt:=fun h h'=>h.oth h' (fun he=>by omega) (fun k _ hk=>by omega)
 have hl6:x.attrs.length≤300000000000:=by have:=attrs_cnt x.attrs;unfold wtH at hwx;omega
 have hkl:k.len≤300000000000:=by have:=len_wt k;unfold wtH at hwx;omega
 have hml:ms.length≤300000000000:=by omega
 have hxt:x.text.length≤300000000000:=by unfold wtH at hwx;omega
 by_cases hq0:kk=0
 ·subst hq0
  refine zz ?_
  refine zCl rfl (wordsR_calls (l:=lnV) (by decide)) ?_
  rintro _ u1 ⟨vn,rfl,hn1,hCb⟩
  refine ⟨_,rfl,?_⟩
  rw [show wordsN [] lnV=lnT from rfl,lnT_len,cellsS_strs] at hn1
  have hTb:=hT6.no hCb
  obtain ⟨bn,on,cn,hvn,_,_⟩:=RdS.some hn1.rd (by omega)
  subst hvn
  refine zP rfl ?_
  refine zCl rfl (next_calls hTb 13 (by decide) (by decide) rfl) ?_
  rintro _ u2 ⟨⟨j,hj,rfl⟩,hTc,hCc⟩
  refine ⟨_,rfl,?_⟩
  have hn3:=RdS.tp hn1.rd hTb hCc (by decide)
  obtain ⟨bn',on',cn',hvn,_,hcn⟩:=RdS.some hn3 (by omega)
  cases hvn
  have hcj:=hcn j _ (strs_get lnT j (by rw [lnT_len];exact hj))
  have hnm:=lnT_nm _ (getD_mem lnT j (by rw [lnT_len];exact hj))
  generalize lnT.getD j []=nm at hcj hnm
  have hb7u:=keepT hTb hCc _ _ _ (by decide) (hb76.no hCb)
  refine zIa rfl rfl (zL1 rfl (cell_at hcj (by omega)) (zfa rfl ?_))
  refine z_store (want_L rfl) rfl rfl rfl (by assumption) (by first|exact Nat.le_refl _|simp [Value.cells]) (by simp [Value.cells,Value.oneCell']) (fun u3 hU3=> ?_)
  have hb7v:Blk u3 b7 43 [.string (bs nm),.slice A2 x.attrs.length c2,.string (bs x.text),.slice A3 m3 c3,.slice A4 k.len c4]:=hU3.blk
  obtain ⟨f1,f2,f3,f4,f5⟩:=hfin (hjoin (hno hCb) (hjoin (htw hCc) (h7w hU3.chg)))
  refine zN (zM ?_)
  exact zk_midX ⟨⟨nm,x.attrs,x.text⟩,k,_,_,_,_,ms,t,r⟩ ⟨hb7v,f4,⟨_,_,_,rfl⟩,hweakK f3,f1,hweakR f2,hd,hge6,by simp only [wtH] at hwx ⊢;omega,htp7 hTc hU3.chg,f5,⟨hokT,by dsimp only;omega,⟨hxT.1,hxT.2⟩,hkT,by dsimp only;omega⟩⟩ ⟨rfl,rfl,rfl,rfl,trivial⟩
 by_cases hq1:kk=1
 ·subst hq1
  refine zz ?_
  refine z_store (want_L rfl) rfl rfl rfl (by assumption) (by first|exact Nat.le_refl _|simp [Value.cells]) (by simp [Value.cells,Value.oneCell']) (fun u3 hU3=> ?_)
  have hb7v:Blk u3 b7 43 [.string (bs x.name),.slice A2 x.attrs.length c2,.string (bs x.text),.slice A3 m3 c3,nS]:=hU3.blk
  obtain ⟨f1,f2,f3,f4,f5⟩:=hfin (h7w hU3.chg)
  refine zN (zM ?_)
  exact zk_midX ⟨x,.nil,_,_,_,_,ms,t,r⟩ ⟨hb7v,f4,⟨_,_,_,rfl⟩,TreeOk.nil,f1,hweakR f2,hd,hge6,by simp only [wtH,AT.wt] at hwx ⊢;omega,htp7 hT6 hU3.chg,f5,⟨hokT,by dsimp only;omega,hxT,trivial,Nat.zero_le _⟩⟩ ⟨rfl,rfl,rfl,rfl,trivial⟩
 by_cases hq2:kk=2
 ·subst hq2
  refine zz ?_
  refine z_store (want_L rfl) rfl rfl rfl (by assumption) (by first|exact Nat.le_refl _|simp [Value.cells]) (by simp [Value.cells,Value.oneCell']) (fun u3 hU3=> ?_)
  have hb7v:Blk u3 b7 43 [.string (bs x.name),.slice A2 x.attrs.length c2,.string (bs (x.text++ [0])),.slice A3 m3 c3,.slice A4 k.len c4]:=hU3.blk
  obtain ⟨f1,f2,f3,f4,f5⟩:=hfin (h7w hU3.chg)
  refine zN (zM ?_)
  exact zk_midX ⟨⟨x.name,x.attrs,x.text++ [0]⟩,k,_,_,_,_,ms,t,r⟩ ⟨hb7v,f4,⟨_,_,_,rfl⟩,hweakK f3,f1,hweakR f2,hd,hge6,by simp only [wtH,List.length_append,List.length_cons,List.length_nil] at hwx ⊢;omega,htp7 hT6 hU3.chg,f5,⟨hokT,by dsimp only;omega,⟨hxT.1,by have:=tx_len _ hxo.2.2.2;rw [List.length_append];show _+1≤20;omega⟩,hkT,by dsimp only;omega⟩⟩ ⟨rfl,rfl,rfl,rfl,trivial⟩
 by_cases hq3:kk=3
 ·subst hq3
  refine zz ?_
  refine z_bs0 (want_L rfl) (by decide) (fun u1 c1 hM1=> ?_)
  have hE2:Own u1 45 2 (.slice (some ⟨c1,0,none⟩) 0 0) 0 []:=Own.empty hM1
  have hb71:=hb76.no hM1.chg
  refine zz ?_
  refine z_appendO (by rfl) (by decide) (want_L rfl) (by decide) rfl rfl hE2 (RdS.no hA6 hM1.chg) (by omega) (by omega) (fun va u2 hOa hXa hra=> ?_)
  have hX2':Chg y6 u2 No:=hM1.chg.trans hXa (fun k hk he=>by simp only [Value.ownBlock,Option.some.injEq] at he;have:=hM1.at_;omega)
  have hb72:=hb76.no hX2'
  rw [List.nil_append,Nat.zero_add] at hOa
  refine z_buildE #[.string (bs [111,110,99,108,105,99,107]),.string (bs [120])] (want_L rfl) (by decide) rfl (by kernel_rfl) ?_
  refine z_bsE (encA [([111,110,99,108,105,99,107],[120])]) (want_L rfl) (by decide) rfl (by decide) (by decide) (by kernel_rfl) (fun u3 c3' hM3=> ?_)
  have hr3:RdS u3 45 2 (.slice (some ⟨c3',0,none⟩) 1 1) 1 (encA [([111,110,99,108,105,99,107],[120])]):=RdS.new hM3 rfl (encA_one _)
  have hgea: ∀k,va.ownBlock=some k→y6.heap.size≤k:=fun k hk=>by
   rcases hra with e1|⟨q,e1,e2⟩
   ·rw [e1] at hk;simp only [Value.ownBlock,Option.some.injEq] at hk;have:=hM1.at_;omega
   ·rw [hk] at e1;cases e1;have:=hM1.chg.size;omega
  refine z_appendO (by rfl) (by decide) (want_L rfl) (by decide) rfl rfl (hOa.no hM3.chg) hr3 (by omega) (by omega) (fun vb u4 hOb hXb hrb=> ?_)
  have hX4':Chg y6 u4 No:=(hX2'.no hM3.chg).trans hXb (fun k hk he=>by have:=hgea k he;omega)
  have hb74':=hb76.no hX4'
  have hOb':Own u4 45 2 vb (x.attrs++ [([111,110,99,108,105,99,107],[120])]).length (encA (x.attrs++ [([111,110,99,108,105,99,107],[120])])):=by rw [List.length_append,encA_app];exact hOb
  obtain ⟨Ab,cb,hvb,_⟩:=hOb'.rd.form
  subst hvb
  refine zfa rfl ?_
  refine z_store (want_L rfl) rfl rfl rfl (by assumption) (by first|exact Nat.le_refl _|simp [Value.cells]) (by simp [Value.cells,Value.oneCell']) (fun u5 hU5'=> ?_)
  have hb7v:Blk u5 b7 43 [.string (bs x.name),.slice Ab (x.attrs++ [([111,110,99,108,105,99,107],[120])]).length cb,.string (bs x.text),.slice A3 m3 c3,.slice A4 k.len c4]:=hU5'.blk
  obtain ⟨f1,f2,f3,f4,f5⟩:=hfin (hjoin (hno hX4') (h7w hU5'.chg))
  have hOc:=hOb'.upd hU5' (by decide)
  refine zN (zM ?_)
  exact zk_midX ⟨⟨x.name,x.attrs++ [([111,110,99,108,105,99,107],[120])],x.text⟩,k,_,_,_,_,ms,t,r⟩ ⟨hb7v,hOc.rd,⟨_,_,_,rfl⟩,hweakK f3,f1,hweakR f2,hd,hge6,by simp only [wtH,attrsN_app,attrsN,List.length_cons,List.length_nil] at hwx ⊢;omega,htp7 (hT6.no hX4') hU5'.chg,f5,⟨hokT,by dsimp only;omega,⟨AtsT_push hxo.2.1 hxo.2.2.1,hxT.2⟩,hkT,by dsimp only;omega⟩⟩ ⟨rfl,rfl,rfl,rfl,trivial⟩
 by_cases hq4:kk=4
 ·subst hq4
  obtain ⟨mk,hrk,hok,hRk⟩:=hK6
  have hlk:=Rows.len k mk (RowsOk.rows k mk hRk)
  refine zz ?_
  refine z_bs0 (want_L rfl) (by decide) (fun u1 c1 hM1=> ?_)
  have hE2:Own u1 43 5 (.slice (some ⟨c1,0,none⟩) 0 0) 0 []:=Own.empty hM1
  have hb71:=hb76.no hM1.chg
  refine zz ?_
  refine z_appendO (by rfl) (by decide) (want_L rfl) (by decide) rfl rfl hE2 (RdS.no hrk hM1.chg) (by omega) (by omega) (fun va u2 hOa hXa hra=> ?_)
  have hX2':Chg y6 u2 No:=hM1.chg.trans hXa (fun k hk he=>by simp only [Value.ownBlock,Option.some.injEq] at he;have:=hM1.at_;omega)
  rw [List.nil_append,Nat.zero_add] at hOa
  refine z_buildE #[.string (bs []),nS,.string (bs [120]),nS,nS] (want_L rfl) (by decide) rfl (by kernel_rfl) ?_
  refine z_bsE (encM [mX]) (want_L rfl) (by decide) rfl (by decide) (by decide) (by kernel_rfl) (fun u3 c3' hM3=> ?_)
  have hr3:RdS u3 43 5 (.slice (some ⟨c3',0,none⟩) 1 1) 1 (encM [mX]):=RdS.art (x:=⟨[],[],[120]⟩) ⟨rfl,AtS.nil _,rfl,isSl_nil⟩ (TreeOk.nil (o:=fun _=>True)) hM3
  have hgea: ∀k,va.ownBlock=some k→y6.heap.size≤k:=fun k hk=>by
   rcases hra with e1|⟨q,e1,e2⟩
   ·rw [e1] at hk;simp only [Value.ownBlock,Option.some.injEq] at hk;have:=hM1.at_;omega
   ·rw [hk] at e1;cases e1;have:=hM1.chg.size;omega
  refine z_appendO (by rfl) (by decide) (want_L rfl) (by decide) rfl rfl (hOa.no hM3.chg) hr3 (by omega) (by omega) (fun vb u4 hOb hXb hrb=> ?_)
  have hX4':Chg y6 u4 No:=(hX2'.no hM3.chg).trans hXb (fun k hk he=>by have:=hgea k he;omega)
  have hb74':=hb76.no hX4'
  have hgeb: ∀k,vb.ownBlock=some k→y6.heap.size≤k:=fun k hk=>by
   rcases hrb with e1|⟨q,e1,e2⟩
   ·exact hgea k (e1▸hk)
   ·rw [hk] at e1;cases e1;have:=(hX2'.no hM3.chg).size;omega
  have hOb':Own u4 43 5 vb (mk++ [mX]).length (encM (mk++ [mX])):=by rw [List.length_append,encM_app];exact hOb
  have hKn:TreeOk u4 (fun b=>(Value.slice (some ⟨b',0,none⟩) ms.length co).ownBlock≠some b∧((ob b∧b<w.heap.size)∨y6.heap.size≤b)) vb (k.snoc ⟨[],[],[120]⟩ .nil):=
   ⟨mk++ [mX],hOb'.rd,fun _ b hb=>⟨fun he=>by simp only [Value.ownBlock,Option.some.injEq] at he;have:=hgeb b hb;omega,.inr (hgeb b hb)⟩,
    RowsOk.snoc ⟨rfl,AtS.nil _,rfl,isSl_nil⟩ TreeOk.nil k mk (RowsOk.mono (fun b _ h=>⟨h.1,.inl h.2⟩) k mk (RowsOk.chg hX4' (fun _ _ _ _=>id) (fun _ _ _=>id) k mk hRk))⟩
  have hwk:(k.snoc ⟨[],[],[120]⟩ .nil).wt=k.wt+16:=by unfold AT.snoc;rw [AT.app_wt];rfl
  obtain ⟨Ab,cb,hvb,_⟩:=hKn.form
  subst hvb
  refine zfa rfl ?_
  refine z_store (want_L rfl) rfl rfl rfl (by assumption) (by first|exact Nat.le_refl _|simp [Value.cells]) (by simp [Value.cells,Value.oneCell']) (fun u5 hU5'=> ?_)
  have hb7v:Blk u5 b7 43 [.string (bs x.name),.slice A2 x.attrs.length c2,.string (bs x.text),.slice A3 m3 c3,.slice Ab (k.snoc ⟨[],[],[120]⟩ .nil).len cb]:=hU5'.blk
  obtain ⟨f1,f2,f3,f4,f5⟩:=hfin (hjoin (hno hX4') (h7w hU5'.chg))
  have hKn5:=(hKn.chg hU5'.chg (fun b cells hb ho he=>by have:=ho.2;omega) (fun b cells hb he=>hb.ne hb74' (by decide) he)).mono (o':=fun b=>(Value.slice (some ⟨b',0,none⟩) ms.length co).ownBlock≠some b∧(ob b∨w.heap.size≤b)) (fun b _ h=>⟨h.1,h.2.elim (fun h=> .inl h.1) (fun h=> .inr (by omega))⟩)
  refine zN (zM ?_)
  exact zk_midX ⟨x,k.snoc ⟨[],[],[120]⟩ .nil,_,_,_,_,ms,t,r⟩ ⟨hb7v,f4,⟨_,_,_,rfl⟩,hKn5,f1,hweakR f2,hd,hge6,by simp only [wtH,hwk] at hwx ⊢;omega,htp7 (hT6.no hX4') hU5'.chg,f5,⟨hokT,by dsimp only;omega,hxT,AT.okT_app k _ hkT ⟨⟨⟨by decide,by decide,fun a ha=>(by cases ha)⟩,by decide⟩,trivial,trivial⟩,by show deepA (k.app _)≤_;rw [deep_app];show max _ 1≤_;omega⟩⟩ ⟨rfl,rfl,rfl,rfl,trivial⟩
 by_cases hq5:kk=5
 ·subst hq5
  refine zz ?_
  refine z_bsE (encM [⟨x.name,.slice A2 x.attrs.length c2,x.text,.slice A3 m3 c3,.slice A4 k.len c4⟩]) (want_L rfl) (by decide) rfl (by decide) (by simp [encM,Value.oneCell']) (by kernel_rfl) (fun u1 c1 hM1=> ?_)
  have hx1:HO y6 ⟨x.name,.slice A2 x.attrs.length c2,x.text,.slice A3 m3 c3,.slice A4 k.len c4⟩ x:=⟨rfl,hA6,rfl,⟨_,_,_,rfl⟩⟩
  have hr1:=RdS.art hx1 hK6 hM1
  have hb71:=hb76.no hM1.chg
  refine z_appendO (by rfl) (by decide) (want_L rfl) (by decide) rfl rfl (hO6.no hM1.chg) hr1 (by omega) (by omega) (fun va u2 hOa hXa hra=> ?_)
  have hgea: ∀k,va.ownBlock=some k→w.heap.size≤k∧k≠b7:=fun k hk=>by
   rcases hra with e1|⟨q,e1,e2⟩
   ·exact hge6 k (e1▸hk)
   ·rw [hk] at e1;cases e1;have:=hM1.chg.size;omega
  have hO61:=hO6.no hM1.chg
  have hb72:Blk u2 b7 43 [.string (bs x.name),.slice A2 x.attrs.length c2,.string (bs x.text),.slice A3 m3 c3,.slice A4 k.len c4]:=hb71.chg hXa (fun he=>(hge6 _ he).2 rfl)
  have hRn:=RowsOk.chg hXa (fun b cs hb ho=>ho.1) (fun b cs hb he=>hO61.ne he hb (by decide) rfl) _ _ (RowsOk.chg hM1.chg (fun _ _ _ _=>id) (fun _ _ _=>id) _ _ (RowsOk.snoc hx1 hK6 t ms hR6))
  have hKn:=(hK6.no hM1.chg).chg hXa (fun b cs hb ho=>ho.1) (fun b cs hb he=>hO61.ne he hb (by decide) rfl)
  have hAn:AtS u2 (.slice A2 x.attrs.length c2) x.attrs:=RdS.chgAt (RdS.no hA6 hM1.chg) hXa (fun _ b cs _ hb he=>hO61.ne he hb (by decide) rfl)
  have hw': ∀b,((Value.slice (some ⟨b',0,none⟩) ms.length co).ownBlock≠some b∧ob b∧b<w.heap.size)→(va.ownBlock≠some b∧(ob b∨w.heap.size≤b)):=fun b h=>⟨fun he=>by have:=hgea b he;omega,.inl h.2.1⟩
  have hws:(t.snoc x k).wt=t.wt+wtH x k:=by unfold AT.snoc wtH;rw [AT.app_wt];simp only [AT.wt];omega
  have hOa':Own u2 43 5 va (ms++ [(⟨x.name,.slice A2 x.attrs.length c2,x.text,.slice A3 m3 c3,.slice A4 k.len c4⟩:MA)]).length (encM (ms++ [(⟨x.name,.slice A2 x.attrs.length c2,x.text,.slice A3 m3 c3,.slice A4 k.len c4⟩:MA)])):=by rw [List.length_append,encM_app];exact hOa
  have hTn:Tp u2 B bt:=(hT6.no hM1.chg).oth hXa (fun he=>by obtain ⟨cs,hb⟩:=(hT6.no hM1.chg).blk;exact hO61.ne he hb (by decide) rfl) (fun k _ hk=>by have:=hge6 k hk;omega)
  have hCn:Chg w u2 (· =bt):=(hX06.no hM1.chg).trans hXa (fun k hk he=>by have:=hge6 k he;omega)
  refine zz ?_
  exact zk_midX ⟨x,k,_,_,_,va,ms++ [_],t.snoc x k,r.app (.cons x k .nil)⟩ ⟨hb72,hAn,⟨_,_,_,rfl⟩,hKn.mono (fun b _ h=>hw' b h),hOa',RowsOk.mono (fun b _ h=>hw' b h) _ _ hRn,dropN_app i t _ x k r hd,hgea,by dsimp only;rw [hws];omega,hTn,hCn,⟨AT.okT_app t _ hokT ⟨hxT,hkT,trivial⟩,by show deepA (t.app _)≤_;rw [deep_app];show max _ (max (1+deepA k) 0)≤_;omega,hxT,hkT,by dsimp only;omega⟩⟩ ⟨rfl,rfl,rfl,rfl,trivial⟩
 by_cases hq6:kk=6
 ·subst hq6
  by_cases hal:x.attrs.length=0
  ·refine zz ?_
   obtain ⟨f1,f2,f3,f4,f5⟩:=hfin (hno (Chg.refl _ _))
   exact zk_midX ⟨x,k,_,_,_,_,ms,t,r⟩ ⟨hb76,f4,⟨_,_,_,rfl⟩,hweakK f3,f1,hweakR f2,hd,hge6,by dsimp only;omega,hT6,f5,⟨hokT,by dsimp only;omega,hxT,hkT,by dsimp only;omega⟩⟩ ⟨rfl,rfl,rfl,rfl,trivial⟩
  ·obtain ⟨a0,al,hxa⟩: ∃a0 al,x.attrs=a0::al:=by
    rcases hx:x.attrs with _|⟨a0,al⟩
    ·exact absurd (by rw [hx];rfl) hal
    ·exact ⟨a0,al,rfl⟩
   obtain ⟨ba,oa,ca,hva,hca',hcel⟩:=RdS.some hA6 (by omega)
   cases hva
   have hc0:=hcel 0 (.string (bs a0.1)) (by rw [hxa];rfl)
   refine zz ?_
   refine zc_draw [12] (fun w'=>Chg y6 w' No∧Blk w' b7 43 [.string (bs x.name),.slice (some ⟨ba,oa,none⟩) x.attrs.length c2,.string (bs x.text),.slice A3 m3 c3,.slice A4 k.len c4]) (.take 0 (.take 1 (.take 2 (.take 3 (.take 4 (.take 5 (.take 7 (.take 8 (.take 9 (.all1 6 (.all1 10 (.take 11 (.last 12))))))))))))) (by rfl) (by kernel_rfl) (by kernel_rfl) (fun z1 hZ1 _=>⟨?_,?_⟩)
   ·exact ⟨hZ1,hb76.no hZ1⟩
   have hb7z:=hb76.no hZ1
   refine zz ?_
   refine zRd rfl rfl (fun _ hS=>r_load1 rfl (cell_at (cell_keep hS.1 hc0) (by omega))) ?_
   refine zRd rfl rfl (fun _ hS=>r_build' (cells:= #[.string (bs a0.1),.string (bs sJv)]) rfl (by kernel_rfl)) ?_
   refine zz ?_
   refine zRd rfl rfl (fun _ hS=>r_cutFrom (k:=1) rfl rfl (by omega) (by omega)) ?_
   refine zs_bsE (encA [(a0.1,sJv)]) rfl (want_L rfl) (by decide) rfl (by decide) (by decide) (by kernel_rfl) (fun z2 c1 hM2=> ?_)
   have hX2:Chg y6 z2 No:=hZ1.no hM2.chg
   have hb72:=hb7z.no hM2.chg
   refine ⟨⟨hX2,hb72⟩,?_⟩
   have hOn:Own z2 45 2 (.slice (some ⟨c1,0,none⟩) 1 1) 1 (encA [(a0.1,sJv)]):=Own.mk' (junk:= []) rfl (Nat.le_refl _) (by decide) (by rw [List.append_nil];exact hM2.blk) rfl (encA_one _)
   have hrc:=(RdS.cut hA6 (k:=1) (by omega)).no hX2
   refine zs_appendO rfl (by rfl) (by decide) (want_L rfl) (by decide) rfl rfl hOn hrc (by omega) (by omega) (fun v3 z3 hO3' hX3' hr3'=> ?_)
   have hX3n:Chg y6 z3 No:=hX2.trans hX3' (fun k hk he=>by simp only [Value.ownBlock,Option.some.injEq] at he;have:=hM2.at_;have:=hZ1.size;omega)
   have hb73:=hb76.no hX3n
   refine ⟨⟨hX3n,hb73⟩,?_⟩
   have hO3n:Own z3 45 2 v3 ((a0.1,sJv)::al).length (encA ((a0.1,sJv)::al)):=by
    have e1:((a0.1,sJv)::al).length=1+(x.attrs.length - 1):=by rw [hxa];simp only [List.length_cons];omega
    have e2:encA ((a0.1,sJv)::al)=encA [(a0.1,sJv)]++(encA x.attrs).drop (1*2):=by rw [hxa];rfl
    rw [e1,e2];exact hO3'
   obtain ⟨Ab,cb,hvb,_⟩:=hO3n.rd.form
   subst hvb
   refine zRd rfl rfl (fun _ hS=>r_fa rfl) ?_
   refine zs_storeL rfl (want_L rfl) rfl rfl rfl (by assumption) (by first|exact Nat.le_refl _|simp [Value.cells]) (by simp [Value.cells,Value.oneCell']) (fun z4 hU4=> ?_)
   have hb7v:Blk z4 b7 43 [.string (bs x.name),.slice Ab ((a0.1,sJv)::al).length cb,.string (bs x.text),.slice A3 m3 c3,.slice A4 k.len c4]:=hU4.blk
   obtain ⟨f1,f2,f3,f4,f5⟩:=hfin (hjoin (hno hX3n) (h7w hU4.chg))
   have hOc:=hO3n.upd hU4 (by decide)
   have hjl:sJv.length=12:=rfl
   refine zM ?_
   exact zk_midX ⟨⟨x.name,(a0.1,sJv)::al,x.text⟩,k,_,_,_,_,ms,t,r⟩ ⟨hb7v,hOc.rd,⟨_,_,_,rfl⟩,hweakK f3,f1,hweakR f2,hd,hge6,by simp only [wtH,hxa,attrsN,hjl] at hwx ⊢;omega,htp7 (hT6.no hX3n) hU4.chg,f5,⟨hokT,by dsimp only;omega,⟨AtsT_head (hxa▸hxo.2.1) (hxa▸hxo.2.2.1),hxT.2⟩,hkT,by dsimp only;omega⟩⟩ ⟨rfl,rfl,rfl,rfl,trivial⟩
 have hsz:=t.drop_size i
 rw [hd] at hsz
 simp only [AT.size] at hsz
 obtain ⟨g,hg⟩: ∃g,f=g+1:=⟨f - 1,by omega⟩
 refine zz ?_
 refine zCl rfl (ih g hg k (by omega) hT6 hK6 hko (by unfold wtH at hwx;omega)) ?_
 rintro _ u1 ⟨vk,k',rfl,hk',hkw,hT7,hX7,hk1,hk1d⟩
 refine ⟨_,rfl,?_⟩
 have hb7u:=keepT hT6 hX7 _ _ _ (by decide) hb76
 obtain ⟨Ak,ck,rfl,_⟩:=hk'.form
 refine zfa rfl ?_
 refine z_store (want_L rfl) rfl rfl rfl (by assumption) (by first|exact Nat.le_refl _|simp [Value.cells]) (by simp [Value.cells,Value.oneCell']) (fun u2 hU2=> ?_)
 have hb7v:Blk u2 b7 43 [.string (bs x.name),.slice A2 x.attrs.length c2,.string (bs x.text),.slice A3 m3 c3,.slice Ak k'.len ck]:=hU2.blk
 obtain ⟨f1,f2,f3,f4,f5⟩:=hfin (hjoin (htw hX7) (h7w hU2.chg))
 have hKn:=(hk'.chg hU2.chg (fun b cells hb ho he=>by rcases ho with ho|ho<;>omega) (fun b cells hb he=>hb.ne hb7u (by decide) he)).mono (o':=fun b=>(Value.slice (some ⟨b',0,none⟩) ms.length co).ownBlock≠some b∧(ob b∨w.heap.size≤b)) (fun b _ h=>h.elim (fun h=>⟨h.1,.inl h.2.1⟩) (fun h=>⟨fun he=>by simp only [Value.ownBlock,Option.some.injEq] at he;omega,.inr (by omega)⟩))
 refine zN (zM ?_)
 exact zk_midX ⟨x,k',_,_,_,_,ms,t,r⟩ ⟨hb7v,f4,⟨_,_,_,rfl⟩,hKn,f1,hweakR f2,hd,hge6,by simp only [wtH] at hwx ⊢;omega,htp7 hT7 hU2.chg,f5,⟨hokT,by dsimp only;omega,hxT,hk1,by dsimp only;omega⟩⟩ ⟨rfl,rfl,rfl,rfl,trivial⟩
theorem turn_all: ∀f,TurnC f
 |0=>turn_body 0 (fun g h=>by omega)
 |f+1=>turn_body (f+1) (fun g h=>(show f=g by omega)▸turn_all f)
theorem turn_calls {w:World} {B bt:Nat} {v:Value} (t:AT) (hT:Tp w B bt) (h:TreeAt true w v t) (ho:t.ok) (hl:t.wt≤300000000000):
  Calls Tryz.prog 13 [v,.pointer (some ⟨bt,0,none⟩)].toArray w fun e w'=> ∃v' t',e= .returned v'∧TreeAt true w' v' t'∧t'.wt≤2*t.wt+200∧t'.okT∧deepA t'≤deepA t+1∧Tp w' B bt∧Chg w w' (· =bt):=
 (turn_all t.size t (Nat.le_refl _) hT h.ok ho hl).mono fun e w' ⟨v',t',h1,h2,h3,h4,h5,h6,h7⟩=>⟨v',t',h1,h2.at',h3,h6,h7,h4,h5⟩
end Go.Proofs.YtbcmiijollpgeaaGreat.T
namespace Go.Proofs.YtbcmiijollpgeaaGreat.V
open Go Go.Z Go.Proofs T
theorem letter_calls {w:World} (c:Nat) (hc:c<256):Calls Tryz.prog 107 [.int .u8 c].toArray w fun e w'=>(∃q:Bool,e= .returned (.bool q))∧w'=w:=
 (T.letter_calls c).mono fun e w' h=>⟨⟨_,h.1⟩,h.2⟩
theorem digit_calls {w:World} (c:Nat) (hc:c<256):Calls Tryz.prog 189 [.int .u8 c].toArray w fun e w'=>(∃q:Bool,e= .returned (.bool q)∧(q=true→48≤c∧c≤57))∧w'=w:=by
 refine zCz 9 Tryz.func189 ?_
 repeat' (first|refine za ?_|refine a_cutW rfl rfl rfl fun _ _=> ?_|refine a_catW rfl rfl fun _ _=> ?_|refine a_idxW rfl rfl fun _ _=> ?_|refine a_addW rfl rfl fun _ _=> ?_|refine a_subW rfl rfl fun _ _=> ?_|refine a_min rfl rfl fun _ _ _ _=> ?_|refine a_max rfl rfl fun _ _ _ _=> ?_|refine a_shr rfl rfl fun _ _=> ?_|refine a_and rfl rfl fun _ _=> ?_|refine a_cmp rfl rfl rfl (fun _=> ?_) fun _=> ?_|refine a_eq rfl rfl (fun _=> ?_) fun _=> ?_|refine a_ne rfl rfl (fun _=> ?_) fun _=> ?_)
 all_goals exact zk_ret1 (.inr rfl) rfl rfl ⟨⟨_,rfl,fun h=>by first|(cases h;done)|(constructor<;>omega)⟩,rfl⟩
theorem sixteen_calls {w:World} (c:Nat) (hc:c<16):Calls Tryz.prog 194 [.int .u8 c].toArray w fun e w'=>(∃s:List UInt8,e= .returned (.string (bs s))∧s.length=1)∧w'=w:=by
 refine zCz 9 Tryz.func194 ?_
 repeat' (first|refine za ?_|refine a_cutW rfl rfl rfl fun _ _=> ?_|refine a_catW rfl rfl fun _ _=> ?_|refine a_idxW rfl rfl fun _ _=> ?_|refine a_addW rfl rfl fun _ _=> ?_|refine a_subW rfl rfl fun _ _=> ?_|refine a_min rfl rfl fun _ _ _ _=> ?_|refine a_max rfl rfl fun _ _ _ _=> ?_|refine a_shr rfl rfl fun _ _=> ?_|refine a_and rfl rfl fun _ _=> ?_|refine a_cmp rfl rfl rfl (fun _=> ?_) fun _=> ?_|refine a_eq rfl rfl (fun _=> ?_) fun _=> ?_|refine a_ne rfl rfl (fun _=> ?_) fun _=> ?_)
 all_goals exact zk_ret1 (.inr rfl) rfl rfl ⟨⟨_,rfl,by omega⟩,rfl⟩
theorem web_calls {w:World} (s:List UInt8):Calls Tryz.prog 138 [.string (bs s)].toArray w fun e w'=>(∃q:Bool,e= .returned (.bool q))∧w'=w:=by
 refine zCz 9 Tryz.func138 ?_
 repeat' (first|refine za ?_|refine a_cutW rfl rfl rfl fun _ _=> ?_|refine a_catW rfl rfl fun _ _=> ?_|refine a_idxW rfl rfl fun _ _=> ?_|refine a_addW rfl rfl fun _ _=> ?_|refine a_subW rfl rfl fun _ _=> ?_|refine a_min rfl rfl fun _ _ _ _=> ?_|refine a_max rfl rfl fun _ _ _ _=> ?_|refine a_shr rfl rfl fun _ _=> ?_|refine a_and rfl rfl fun _ _=> ?_|refine a_cmp rfl rfl rfl (fun _=> ?_) fun _=> ?_|refine a_eq rfl rfl (fun _=> ?_) fun _=> ?_|refine a_ne rfl rfl (fun _=> ?_) fun _=> ?_)
 all_goals exact zk_ret1 (.inr rfl) rfl rfl ⟨⟨_,rfl⟩,rfl⟩
theorem index_calls {w:World} (l p:List UInt8) (hl:l.length≤big) (hp:p.length≤big):Calls Tryz.prog 16 [.string (bs l),.string (bs p),.int .i64 0].toArray w fun e w'=>(∃k:Int,e= .returned (.int .i64 k)∧ -1≤k∧k≤l.length∧(∀c,p= [c]→c∉l→k= -1))∧w'=w:=by
 have hbig:big=1000000000000:=rfl
 refine zCz 29 Tryz.func16 ?_
 repeat' (first|refine za ?_|refine a_cutW rfl rfl rfl fun _ _=> ?_|refine a_catW rfl rfl fun _ _=> ?_|refine a_idxW rfl rfl fun _ _=> ?_|refine a_addW rfl rfl fun _ _=> ?_|refine a_subW rfl rfl fun _ _=> ?_|refine a_min rfl rfl fun _ _ _ _=> ?_|refine a_max rfl rfl fun _ _ _ _=> ?_|refine a_shr rfl rfl fun _ _=> ?_|refine a_and rfl rfl fun _ _=> ?_|refine a_cmp rfl rfl rfl (fun _=> ?_) fun _=> ?_|refine a_eq rfl rfl (fun _=> ?_) fun _=> ?_|refine a_ne rfl rfl (fun _=> ?_) fun _=> ?_)
 refine zc_loopW (ι:=Nat) (fun i u=> [(0,.string (bs l)),(1,.string (bs p)),(7,.int .i64 (i:Nat))]) (fun i u=>i≤l.length+1∧u=w) (fun i u=>l.length+1 - i) 0 ⟨Nat.zero_le _,rfl⟩ ?_ ?_
 ·exact ⟨rfl,rfl,get_int rfl (by omega),trivial⟩
 rintro i u ⟨hi,hu⟩
 obtain rfl:=hu.symm
 by_cases hlt:i+p.length≤l.length
 ·refine zz ?_
  refine z_cutN i (i+p.length) (want_L rfl) (by decide) rfl rfl rfl rfl (by omega) (by omega) (by omega) ?_
  refine zP rfl ?_
  refine zEq rfl rfl (fun hc=> ?_) (fun hc=> ?_)
  ·refine zz ?_
   refine zk_ret1 (.inr rfl) rfl rfl ⟨⟨_,rfl,by omega,by omega,fun c hp1 hn=>absurd (List.mem_of_mem_drop (List.mem_of_mem_take (show c∈(l.drop i).take (i+p.length - i) by rw [hc,hp1];simp))) hn⟩,rfl⟩
  ·refine zz ?_
   exact zk_loopW (i+1) ⟨by omega,rfl⟩ (by omega) ⟨rfl,rfl,get_int rfl (by omega),trivial⟩
 ·refine zz ?_
  exact zk_ret1 (.inr rfl) rfl rfl ⟨⟨_,rfl,by omega,by omega,fun _ _ _=>rfl⟩,rfl⟩
theorem digits_calls {w:World} (l:List UInt8) (hl:l.length≤big):Calls Tryz.prog 191 [.string (bs l)].toArray w fun e w'=>(∃q:Bool,e= .returned (.bool q))∧w'=w:=by
 have hbig:big=1000000000000:=rfl
 refine zCz 17 Tryz.func191 ?_
 repeat' (first|refine za ?_|refine a_cutW rfl rfl rfl fun _ _=> ?_|refine a_catW rfl rfl fun _ _=> ?_|refine a_idxW rfl rfl fun _ _=> ?_|refine a_addW rfl rfl fun _ _=> ?_|refine a_subW rfl rfl fun _ _=> ?_|refine a_min rfl rfl fun _ _ _ _=> ?_|refine a_max rfl rfl fun _ _ _ _=> ?_|refine a_shr rfl rfl fun _ _=> ?_|refine a_and rfl rfl fun _ _=> ?_|refine a_cmp rfl rfl rfl (fun _=> ?_) fun _=> ?_|refine a_eq rfl rfl (fun _=> ?_) fun _=> ?_|refine a_ne rfl rfl (fun _=> ?_) fun _=> ?_)
 refine zc_loopW (ι:=Nat) (fun i u=> [(0,.string (bs l)),(3,.int .i64 (i:Nat))]) (fun i u=>i≤l.length∧u=w) (fun i u=>l.length - i) 0 ⟨Nat.zero_le _,rfl⟩ ⟨rfl,rfl,trivial⟩ ?_
 rintro i u ⟨hi,hu⟩
 obtain rfl:=hu.symm
 by_cases hlt:i<l.length
 ·repeat' (first|refine za ?_|refine a_cutW rfl rfl rfl fun _ _=> ?_|refine a_catW rfl rfl fun _ _=> ?_|refine a_idxW rfl rfl fun _ _=> ?_|refine a_addW rfl rfl fun _ _=> ?_|refine a_subW rfl rfl fun _ _=> ?_|refine a_min rfl rfl fun _ _ _ _=> ?_|refine a_max rfl rfl fun _ _ _ _=> ?_|refine a_shr rfl rfl fun _ _=> ?_|refine a_and rfl rfl fun _ _=> ?_|refine a_cmp rfl rfl rfl (fun _=> ?_) fun _=> ?_|refine a_eq rfl rfl (fun _=> ?_) fun _=> ?_|refine a_ne rfl rfl (fun _=> ?_) fun _=> ?_)
  refine zCl rfl (digit_calls _ (by assumption)) ?_
  rintro _ v ⟨⟨q,rfl,_⟩,hv⟩
  obtain rfl:=hv.symm
  refine ⟨_,rfl,?_⟩
  cases q
  ·repeat' (first|refine za ?_|refine a_cutW rfl rfl rfl fun _ _=> ?_|refine a_catW rfl rfl fun _ _=> ?_|refine a_idxW rfl rfl fun _ _=> ?_|refine a_addW rfl rfl fun _ _=> ?_|refine a_subW rfl rfl fun _ _=> ?_|refine a_min rfl rfl fun _ _ _ _=> ?_|refine a_max rfl rfl fun _ _ _ _=> ?_|refine a_shr rfl rfl fun _ _=> ?_|refine a_and rfl rfl fun _ _=> ?_|refine a_cmp rfl rfl rfl (fun _=> ?_) fun _=> ?_|refine a_eq rfl rfl (fun _=> ?_) fun _=> ?_|refine a_ne rfl rfl (fun _=> ?_) fun _=> ?_)
   exact zk_ret1 (.inr rfl) rfl rfl ⟨⟨_,rfl⟩,rfl⟩
  ·repeat' (first|refine za ?_|refine a_cutW rfl rfl rfl fun _ _=> ?_|refine a_catW rfl rfl fun _ _=> ?_|refine a_idxW rfl rfl fun _ _=> ?_|refine a_addW rfl rfl fun _ _=> ?_|refine a_subW rfl rfl fun _ _=> ?_|refine a_min rfl rfl fun _ _ _ _=> ?_|refine a_max rfl rfl fun _ _ _ _=> ?_|refine a_shr rfl rfl fun _ _=> ?_|refine a_and rfl rfl fun _ _=> ?_|refine a_cmp rfl rfl rfl (fun _=> ?_) fun _=> ?_|refine a_eq rfl rfl (fun _=> ?_) fun _=> ?_|refine a_ne rfl rfl (fun _=> ?_) fun _=> ?_)
   exact zk_loopW (i+1) ⟨by omega,rfl⟩ (by omega) ⟨rfl,get_int rfl (by omega),trivial⟩
 ·repeat' (first|refine za ?_|refine a_cutW rfl rfl rfl fun _ _=> ?_|refine a_catW rfl rfl fun _ _=> ?_|refine a_idxW rfl rfl fun _ _=> ?_|refine a_addW rfl rfl fun _ _=> ?_|refine a_subW rfl rfl fun _ _=> ?_|refine a_min rfl rfl fun _ _ _ _=> ?_|refine a_max rfl rfl fun _ _ _ _=> ?_|refine a_shr rfl rfl fun _ _=> ?_|refine a_and rfl rfl fun _ _=> ?_|refine a_cmp rfl rfl rfl (fun _=> ?_) fun _=> ?_|refine a_eq rfl rfl (fun _=> ?_) fun _=> ?_|refine a_ne rfl rfl (fun _=> ?_) fun _=> ?_)
  all_goals exact zk_ret1 (.inr rfl) rfl rfl ⟨⟨_,rfl⟩,rfl⟩
theorem number_calls {w:World} (l:List UInt8) (hl:l.length≤big):Calls Tryz.prog 193 [.string (bs l)].toArray w fun e w'=>(∃k:Nat,e= .returned (.int .i64 k)∧k≤1048576)∧w'=w:=by
 have hbig:big=1000000000000:=rfl
 refine zCz 21 Tryz.func193 ?_
 repeat' (first|refine za ?_|refine a_cutW rfl rfl rfl fun _ _=> ?_|refine a_catW rfl rfl fun _ _=> ?_|refine a_idxW rfl rfl fun _ _=> ?_|refine a_addW rfl rfl fun _ _=> ?_|refine a_subW rfl rfl fun _ _=> ?_|refine a_min rfl rfl fun _ _ _ _=> ?_|refine a_max rfl rfl fun _ _ _ _=> ?_|refine a_shr rfl rfl fun _ _=> ?_|refine a_and rfl rfl fun _ _=> ?_|refine a_cmp rfl rfl rfl (fun _=> ?_) fun _=> ?_|refine a_eq rfl rfl (fun _=> ?_) fun _=> ?_|refine a_ne rfl rfl (fun _=> ?_) fun _=> ?_)
 refine zc_loopW (ι:=Nat×Nat) (fun q u=> [(0,.string (bs l)),(3,.int .i64 (q.2:Nat)),(4,.int .i64 (q.1:Nat))]) (fun q u=>q.1≤l.length∧q.2≤1048576∧u=w) (fun q u=>l.length - q.1) (0,0) ⟨Nat.zero_le _,Nat.zero_le _,rfl⟩ ⟨rfl,rfl,rfl,trivial⟩ ?_
 rintro ⟨i,k⟩ u ⟨hi,hk,hu⟩
 obtain rfl:=hu.symm
 dsimp only at hi hk ⊢
 by_cases hlt:i<l.length
 ·repeat' (first|refine za ?_|refine a_cutW rfl rfl rfl fun _ _=> ?_|refine a_catW rfl rfl fun _ _=> ?_|refine a_idxW rfl rfl fun _ _=> ?_|refine a_addW rfl rfl fun _ _=> ?_|refine a_subW rfl rfl fun _ _=> ?_|refine a_min rfl rfl fun _ _ _ _=> ?_|refine a_max rfl rfl fun _ _ _ _=> ?_|refine a_shr rfl rfl fun _ _=> ?_|refine a_and rfl rfl fun _ _=> ?_|refine a_cmp rfl rfl rfl (fun _=> ?_) fun _=> ?_|refine a_eq rfl rfl (fun _=> ?_) fun _=> ?_|refine a_ne rfl rfl (fun _=> ?_) fun _=> ?_)
  rename_i c4 hc0 hc1 hc2
  obtain ⟨m,hm⟩:=Int.eq_ofNat_of_zero_le (show 0≤c4 by omega)
  subst hm
  exact zk_loopW (i+1,m) ⟨by dsimp only;omega,by dsimp only;omega,rfl⟩ (by dsimp only;omega) ⟨rfl,rfl,get_int rfl (by omega),trivial⟩
 ·repeat' (first|refine za ?_|refine a_cutW rfl rfl rfl fun _ _=> ?_|refine a_catW rfl rfl fun _ _=> ?_|refine a_idxW rfl rfl fun _ _=> ?_|refine a_addW rfl rfl fun _ _=> ?_|refine a_subW rfl rfl fun _ _=> ?_|refine a_min rfl rfl fun _ _ _ _=> ?_|refine a_max rfl rfl fun _ _ _ _=> ?_|refine a_shr rfl rfl fun _ _=> ?_|refine a_and rfl rfl fun _ _=> ?_|refine a_cmp rfl rfl rfl (fun _=> ?_) fun _=> ?_|refine a_eq rfl rfl (fun _=> ?_) fun _=> ?_|refine a_ne rfl rfl (fun _=> ?_) fun _=> ?_)
  exact zk_ret1 (.inr rfl) rfl rfl ⟨⟨_,rfl,hk⟩,rfl⟩
theorem small12_calls {w:World} (l:List UInt8) (hl:l.length≤big):Calls Tryz.prog 192 [.string (bs l)].toArray w fun e w'=>(∃q:Bool,e= .returned (.bool q))∧w'=w:=by
 have hbig:big=1000000000000:=rfl
 refine zCz 24 Tryz.func192 ?_
 repeat' (first|refine za ?_|refine a_cutW rfl rfl rfl fun _ _=> ?_|refine a_catW rfl rfl fun _ _=> ?_|refine a_idxW rfl rfl fun _ _=> ?_|refine a_addW rfl rfl fun _ _=> ?_|refine a_subW rfl rfl fun _ _=> ?_|refine a_min rfl rfl fun _ _ _ _=> ?_|refine a_max rfl rfl fun _ _ _ _=> ?_|refine a_shr rfl rfl fun _ _=> ?_|refine a_and rfl rfl fun _ _=> ?_|refine a_cmp rfl rfl rfl (fun _=> ?_) fun _=> ?_|refine a_eq rfl rfl (fun _=> ?_) fun _=> ?_|refine a_ne rfl rfl (fun _=> ?_) fun _=> ?_)
 refine zCl rfl (digits_calls l hl) ?_
 rintro _ v ⟨⟨q,rfl⟩,hv⟩
 obtain rfl:=hv.symm
 refine ⟨_,rfl,?_⟩
 cases q
 ·repeat' (first|refine za ?_|refine a_cutW rfl rfl rfl fun _ _=> ?_|refine a_catW rfl rfl fun _ _=> ?_|refine a_idxW rfl rfl fun _ _=> ?_|refine a_addW rfl rfl fun _ _=> ?_|refine a_subW rfl rfl fun _ _=> ?_|refine a_min rfl rfl fun _ _ _ _=> ?_|refine a_max rfl rfl fun _ _ _ _=> ?_|refine a_shr rfl rfl fun _ _=> ?_|refine a_and rfl rfl fun _ _=> ?_|refine a_cmp rfl rfl rfl (fun _=> ?_) fun _=> ?_|refine a_eq rfl rfl (fun _=> ?_) fun _=> ?_|refine a_ne rfl rfl (fun _=> ?_) fun _=> ?_)
  exact zk_ret1 (.inr rfl) rfl rfl ⟨⟨_,rfl⟩,rfl⟩
 ·repeat' (first|refine za ?_|refine a_cutW rfl rfl rfl fun _ _=> ?_|refine a_catW rfl rfl fun _ _=> ?_|refine a_idxW rfl rfl fun _ _=> ?_|refine a_addW rfl rfl fun _ _=> ?_|refine a_subW rfl rfl fun _ _=> ?_|refine a_min rfl rfl fun _ _ _ _=> ?_|refine a_max rfl rfl fun _ _ _ _=> ?_|refine a_shr rfl rfl fun _ _=> ?_|refine a_and rfl rfl fun _ _=> ?_|refine a_cmp rfl rfl rfl (fun _=> ?_) fun _=> ?_|refine a_eq rfl rfl (fun _=> ?_) fun _=> ?_|refine a_ne rfl rfl (fun _=> ?_) fun _=> ?_)
  all_goals first|exact zk_ret1 (.inr rfl) rfl rfl ⟨⟨_,rfl⟩,rfl⟩|skip
  all_goals (refine zCl rfl (number_calls l hl) ?_;rintro _ v ⟨⟨k,rfl,hk⟩,hv⟩;obtain rfl:=hv.symm;refine ⟨_,rfl,?_⟩)
  repeat' (first|refine za ?_|refine a_cutW rfl rfl rfl fun _ _=> ?_|refine a_catW rfl rfl fun _ _=> ?_|refine a_idxW rfl rfl fun _ _=> ?_|refine a_addW rfl rfl fun _ _=> ?_|refine a_subW rfl rfl fun _ _=> ?_|refine a_min rfl rfl fun _ _ _ _=> ?_|refine a_max rfl rfl fun _ _ _ _=> ?_|refine a_shr rfl rfl fun _ _=> ?_|refine a_and rfl rfl fun _ _=> ?_|refine a_cmp rfl rfl rfl (fun _=> ?_) fun _=> ?_|refine a_eq rfl rfl (fun _=> ?_) fun _=> ?_|refine a_ne rfl rfl (fun _=> ?_) fun _=> ?_)
  all_goals exact zk_ret1 (.inr rfl) rfl rfl ⟨⟨_,rfl⟩,rfl⟩
open Go Go.Z Go.Proofs T
theorem ev_ptr' {e:Env} {x:Operand} {b o o':Nat} (h:ev e x=some (.pointer (some ⟨b,o,none⟩))) (ho:o=o'):ev e x=some (.pointer (some ⟨b,o',none⟩)):=by rw [h,ho]
theorem run_storeB {P:Program} {w:World} {b o el s k t:Nat} {cs:List Value} {v z:Value} [hz:Inf P t 1 k z] (hb:BlkB w b el cs) (ho:o<cs.length) (h1:v.oneCell'=true) (hs:v.cells= #[v]):
  (Instr.storeAt t (.pointer (some ⟨b,o,none⟩)) v).run P w= .ok () (w.setRow b (cs.set o v).toArray):=by
 have hh:w.heap[b]? =some (.cells cs.toArray el (cs.length,cs.length+1)):=hb
 have hcell:w.cell? ⟨b,o,none⟩=some cs[o]:=by rw [hb.cell,List.getElem?_eq_getElem ho]
 have hfro:w.frozen? ⟨b,o,none⟩=false:=by
  simp only [World.frozen?,hh,Bool.and_eq_false_iff,decide_eq_false_iff_not];left;omega
 have hadd:(⟨b,o,none⟩:Addr).add 0=⟨b,o,none⟩:=rfl
 have hst:(store ((⟨b,o,none⟩:Addr).add 0) v).run P w= .ok () (w.setRow b (cs.set o v).toArray):=by
  rw [hadd,run_store P w _ v _ h1,hcell]
  simp [hfro,setCell_eq_setRow w b o cs.toArray el _ v hh]
 simp only [Instr.storeAt,Instr.sureAddr,storeVar,Sem.run_bind,Sem.run_pure,Result.andThen_ok,hz.size w]
 rw [if_neg (by simp [hs])]
 simp [hs,storeCells,hst]
theorem z_storeB {P:Program} {n:Nat} {e:Env} {w:World} {Q:Exit→Act→World→Prop} {ops:Array Oper} {rest:List Oper} {ty:TypeId} {pos:String} {aft:Array Edge} {g:Option (Nat×Bool)} {x y:Operand}
  {b o el k t:Nat} {cs:List Value} {v z:Value} [hz:Inf P t 1 k z] (hw:Want ops e g) (hx:ev e x=some (.pointer (some ⟨b,o,none⟩))) (hy:ev e y=some v) (hb:BlkB w b el cs) (ho:o<cs.length) (h1:v.oneCell'=true) (hs:v.cells= #[v])
  (h: ∀w',BlkB w' b el (cs.set o v)→Chg w w' (· =b)→ZL P n ops rest e w' Q):ZL P n ops (⟨none,.store t x y,ty,pos,aft,g⟩::rest) e w Q:=by
 refine zl_runU (w':=w.setRow b (cs.set o v).toArray) hw rfl (fun a ha=>by simp [execOp,ha.ev hx,ha.ev hy,run_storeB (s:=0) hb ho h1 hs]) (h _ ?_ ⟨rfl,rfl,rfl,by simp [World.setRow],fun j _ hj=>setRow_other w b j _ hj⟩)
 have:=setRow_heap w b _ (cs.set o v).toArray el _ hb
 unfold BlkB
 rw [this];simp
theorem cellsB_set (l:List UInt8) (k:Nat) (c:UInt8) (z:List Value) (h:k<l.length):(cellsB l++z).set k (.int .u8 c.toNat)=cellsB (l.set k c)++z:=by
 rw [List.set_append_left _ _ (by rw [cellsB_len];exact h)]
 simp [cellsB,List.map_set]
theorem cellsB_setN (l:List UInt8) (k:Nat) (c:Nat) (hc:c<256) (z:List Value) (h:k<l.length):(cellsB l++z).set k (.int .u8 c)=cellsB (l.set k (UInt8.ofNat c))++z:=by
 rw [←cellsB_set _ _ _ _ h]
 have:(UInt8.ofNat c).toNat=c:=by simp;omega
 rw [this]
theorem fold_calls {w:World} (l:List UInt8) (hl:l.length≤big):Calls Tryz.prog 76 [.string (bs l)].toArray w fun e w'=>(∃s:List UInt8,e= .returned (.string (bs s))∧s.length=l.length)∧Chg w w' No:=by
 have hbig:big=1000000000000:=rfl
 refine zCz 35 Tryz.func76 ?_
 refine zz ?_
 refine z_convSB (want_L rfl) (by decide) rfl (fun w1 b c z hb hC hB hc=> ?_)
 refine zz ?_
 refine zc_loopW (ι:=Nat×List UInt8) (fun q u=> [(3,.slice (some ⟨b,0,none⟩) l.length c),(4,.int .i64 (q.1:Nat))]) (fun q u=>q.1≤l.length∧Chg w u No∧q.2.length=l.length∧BlkB u b 5 (cellsB q.2++z)) (fun q u=>l.length - q.1) (0,l) ⟨Nat.zero_le _,hC,rfl,hB⟩ ?_ ?_
 ·exact ⟨rfl,rfl,trivial⟩
 rintro ⟨k,m⟩ u ⟨hk,hC,hm,hB⟩
 dsimp only at hk hm hB ⊢
 by_cases hkl:k<l.length
 ·have hcell:u.cell? ⟨b,k,none⟩=some (.int .u8 ((m.getD k 0).toNat:Nat)):=by
   rw [hB.cell,List.getElem?_append_left (by rw [cellsB_len,hm];exact hkl),cellsB_at _ k (by rw [hm];exact hkl)]
  have hb8:=byte_lt m k
  obtain ⟨cc,hcc⟩: ∃x,x=(m.getD k 0).toNat:=⟨_,rfl⟩
  rw [←hcc] at hcell hb8
  by_cases h65:65≤cc
  ·by_cases h90:cc≤90
   ·refine zz ?_
    refine zL1 rfl (cell_at hcell (by omega)) (zz ?_)
    refine zL1 rfl (cell_at hcell (by omega)) (zz ?_)
    refine zL1 rfl (cell_at hcell (by omega)) ?_
    refine z_addW (want_L rfl) (by decide) rfl rfl (fun c2 hc2=> ?_)
    refine zIa rfl rfl ?_
    refine z_storeB (o:=k) (want_L rfl) (ev_ptr' rfl (by omega)) rfl hB (by rw [List.length_append,cellsB_len,hm];omega) rfl rfl (fun u2 hB2 hC2=> ?_)
    rw [cellsB_setN _ _ _ hc2 _ (by rw [hm];exact hkl)] at hB2
    refine zz ?_
    exact zk_loopW (k+1,m.set k (UInt8.ofNat c2)) ⟨by dsimp only;omega,hC.trans hC2 (fun i hi he=>by subst he;omega),by dsimp only;rw [List.length_set];exact hm,hB2⟩ (by dsimp only;omega) ⟨rfl,get_int rfl (by dsimp only;omega),trivial⟩
   ·refine zz ?_
    refine zL1 rfl (cell_at hcell (by omega)) (zz ?_)
    refine zL1 rfl (cell_at hcell (by omega)) (zz ?_)
    exact zk_loopW (k+1,m) ⟨by dsimp only;omega,hC,hm,hB⟩ (by dsimp only;omega) ⟨rfl,get_int rfl (by dsimp only;omega),trivial⟩
  ·refine zz ?_
   refine zL1 rfl (cell_at hcell (by omega)) (zz ?_)
   exact zk_loopW (k+1,m) ⟨by dsimp only;omega,hC,hm,hB⟩ (by dsimp only;omega) ⟨rfl,get_int rfl (by dsimp only;omega),trivial⟩
 ·have hrb:=hB.rb (c:=c) (by omega)
  rw [hm] at hrb
  refine zz ?_
  refine z_convBS (want_L rfl) (by decide) rfl hrb ?_
  refine zz ?_
  exact zk_ret1 (.inr rfl) rfl rfl ⟨⟨_,rfl,hm⟩,hC⟩
theorem upTo_calls {w:World} (l p:List UInt8) (hl:l.length≤big) (hp:p.length≤big):Calls Tryz.prog 166 [.string (bs l),.string (bs p)].toArray w fun e w'=>(∃k:Nat,e= .returned (.int .i64 k)∧k≤l.length)∧w'=w:=by
 have hbig:big=1000000000000:=rfl
 refine zCz 23 Tryz.func166 ?_
 repeat' (first|refine za ?_|refine a_cutW rfl rfl rfl fun _ _=> ?_|refine a_catW rfl rfl fun _ _=> ?_|refine a_idxW rfl rfl fun _ _=> ?_|refine a_addW rfl rfl fun _ _=> ?_|refine a_subW rfl rfl fun _ _=> ?_|refine a_min rfl rfl fun _ _ _ _=> ?_|refine a_max rfl rfl fun _ _ _ _=> ?_|refine a_shr rfl rfl fun _ _=> ?_|refine a_and rfl rfl fun _ _=> ?_|refine a_cmp rfl rfl rfl (fun _=> ?_) fun _=> ?_|refine a_eq rfl rfl (fun _=> ?_) fun _=> ?_|refine a_ne rfl rfl (fun _=> ?_) fun _=> ?_)
 refine zc_loopW (ι:=Nat) (fun i u=> [(0,.string (bs l)),(1,.string (bs p)),(5,.int .i64 (i:Nat))]) (fun i u=>i≤l.length∧u=w) (fun i u=>l.length - i) 0 ⟨Nat.zero_le _,rfl⟩ ⟨rfl,rfl,rfl,trivial⟩ ?_
 rintro i u ⟨hi,hu⟩
 obtain rfl:=hu.symm
 by_cases hlt:i<l.length
 ·repeat' (first|refine za ?_|refine a_cutW rfl rfl rfl fun _ _=> ?_|refine a_catW rfl rfl fun _ _=> ?_|refine a_idxW rfl rfl fun _ _=> ?_|refine a_addW rfl rfl fun _ _=> ?_|refine a_subW rfl rfl fun _ _=> ?_|refine a_min rfl rfl fun _ _ _ _=> ?_|refine a_max rfl rfl fun _ _ _ _=> ?_|refine a_shr rfl rfl fun _ _=> ?_|refine a_and rfl rfl fun _ _=> ?_|refine a_cmp rfl rfl rfl (fun _=> ?_) fun _=> ?_|refine a_eq rfl rfl (fun _=> ?_) fun _=> ?_|refine a_ne rfl rfl (fun _=> ?_) fun _=> ?_)
  rename_i r hr
  refine zCl rfl (index_calls p r hp (by omega)) ?_
  rintro _ v ⟨⟨k,rfl,h1,h2,_⟩,hv⟩
  obtain rfl:=hv.symm
  refine ⟨_,rfl,?_⟩
  repeat' (first|refine za ?_|refine a_cutW rfl rfl rfl fun _ _=> ?_|refine a_catW rfl rfl fun _ _=> ?_|refine a_idxW rfl rfl fun _ _=> ?_|refine a_addW rfl rfl fun _ _=> ?_|refine a_subW rfl rfl fun _ _=> ?_|refine a_min rfl rfl fun _ _ _ _=> ?_|refine a_max rfl rfl fun _ _ _ _=> ?_|refine a_shr rfl rfl fun _ _=> ?_|refine a_and rfl rfl fun _ _=> ?_|refine a_cmp rfl rfl rfl (fun _=> ?_) fun _=> ?_|refine a_eq rfl rfl (fun _=> ?_) fun _=> ?_|refine a_ne rfl rfl (fun _=> ?_) fun _=> ?_)
  ·exact zk_ret1 (.inr rfl) rfl rfl ⟨⟨i,rfl,hi⟩,rfl⟩
  ·exact zk_loopW (i+1) ⟨by omega,rfl⟩ (by omega) ⟨rfl,rfl,get_int rfl (by omega),trivial⟩
 ·repeat' (first|refine za ?_|refine a_cutW rfl rfl rfl fun _ _=> ?_|refine a_catW rfl rfl fun _ _=> ?_|refine a_idxW rfl rfl fun _ _=> ?_|refine a_addW rfl rfl fun _ _=> ?_|refine a_subW rfl rfl fun _ _=> ?_|refine a_min rfl rfl fun _ _ _ _=> ?_|refine a_max rfl rfl fun _ _ _ _=> ?_|refine a_shr rfl rfl fun _ _=> ?_|refine a_and rfl rfl fun _ _=> ?_|refine a_cmp rfl rfl rfl (fun _=> ?_) fun _=> ?_|refine a_eq rfl rfl (fun _=> ?_) fun _=> ?_|refine a_ne rfl rfl (fun _=> ?_) fun _=> ?_)
  exact zk_ret1 (.inr rfl) rfl rfl ⟨⟨_,rfl,Nat.le_refl _⟩,rfl⟩
theorem dig_calls {w:World} (k:Nat) (hk:k≤1048576):Calls Tryz.prog 196 [.int .i64 k].toArray w fun e w'=>(∃s:List UInt8,e= .returned (.string (bs s))∧s.length≤1048580)∧w'=w:=by
 refine zCz 23 Tryz.func196 ?_
 repeat' (first|refine za ?_|refine a_cutW rfl rfl rfl fun _ _=> ?_|refine a_catW rfl rfl fun _ _=> ?_|refine a_idxW rfl rfl fun _ _=> ?_|refine a_addW rfl rfl fun _ _=> ?_|refine a_subW rfl rfl fun _ _=> ?_|refine a_min rfl rfl fun _ _ _ _=> ?_|refine a_max rfl rfl fun _ _ _ _=> ?_|refine a_shr rfl rfl fun _ _=> ?_|refine a_and rfl rfl fun _ _=> ?_|refine a_cmp rfl rfl rfl (fun _=> ?_) fun _=> ?_|refine a_eq rfl rfl (fun _=> ?_) fun _=> ?_|refine a_ne rfl rfl (fun _=> ?_) fun _=> ?_)
 refine zc_loopW (ι:=Nat×List UInt8) (fun q u=> [(0,.int .i64 (q.1:Nat)),(3,.string (bs q.2))]) (fun q u=>q.1+q.2.length≤1048576∧u=w) (fun q u=>q.1) (k,[]) ⟨hk,rfl⟩ ⟨rfl,rfl,trivial⟩ ?_
 rintro ⟨m,s⟩ u ⟨hm,hu⟩
 obtain rfl:=hu.symm
 dsimp only at hm ⊢
 by_cases h9:9<m
 ·refine zz ?_
  refine z_rem (want_L rfl) (by decide) rfl rfl (by decide) ?_
  have e10:(m:Int).tmod 10=((m%10:Nat):Int):=by rw [Int.tmod_eq_emod_of_nonneg (by omega)];omega
  rw [e10]
  repeat' (first|refine za ?_|refine a_cutW rfl rfl rfl fun _ _=> ?_|refine a_catW rfl rfl fun _ _=> ?_|refine a_idxW rfl rfl fun _ _=> ?_|refine a_addW rfl rfl fun _ _=> ?_|refine a_subW rfl rfl fun _ _=> ?_|refine a_min rfl rfl fun _ _ _ _=> ?_|refine a_max rfl rfl fun _ _ _ _=> ?_|refine a_shr rfl rfl fun _ _=> ?_|refine a_and rfl rfl fun _ _=> ?_|refine a_cmp rfl rfl rfl (fun _=> ?_) fun _=> ?_|refine a_eq rfl rfl (fun _=> ?_) fun _=> ?_|refine a_ne rfl rfl (fun _=> ?_) fun _=> ?_)
  refine z_quo (want_L rfl) (by decide) rfl rfl (by decide) ?_
  have e11:(m:Int).tdiv 10=((m / 10:Nat):Int):=by rw [Int.tdiv_eq_ediv_of_nonneg (by omega)];omega
  rw [e11,wrap_i64 (by omega) (by omega)]
  repeat' (first|refine za ?_|refine a_cutW rfl rfl rfl fun _ _=> ?_|refine a_catW rfl rfl fun _ _=> ?_|refine a_idxW rfl rfl fun _ _=> ?_|refine a_addW rfl rfl fun _ _=> ?_|refine a_subW rfl rfl fun _ _=> ?_|refine a_min rfl rfl fun _ _ _ _=> ?_|refine a_max rfl rfl fun _ _ _ _=> ?_|refine a_shr rfl rfl fun _ _=> ?_|refine a_and rfl rfl fun _ _=> ?_|refine a_cmp rfl rfl rfl (fun _=> ?_) fun _=> ?_|refine a_eq rfl rfl (fun _=> ?_) fun _=> ?_|refine a_ne rfl rfl (fun _=> ?_) fun _=> ?_)
  rename_i s2 hs2
  exact zk_loopW (m / 10,s2) ⟨by dsimp only;omega,rfl⟩ (by dsimp only;omega) ⟨rfl,rfl,trivial⟩
 ·repeat' (first|refine za ?_|refine a_cutW rfl rfl rfl fun _ _=> ?_|refine a_catW rfl rfl fun _ _=> ?_|refine a_idxW rfl rfl fun _ _=> ?_|refine a_addW rfl rfl fun _ _=> ?_|refine a_subW rfl rfl fun _ _=> ?_|refine a_min rfl rfl fun _ _ _ _=> ?_|refine a_max rfl rfl fun _ _ _ _=> ?_|refine a_shr rfl rfl fun _ _=> ?_|refine a_and rfl rfl fun _ _=> ?_|refine a_cmp rfl rfl rfl (fun _=> ?_) fun _=> ?_|refine a_eq rfl rfl (fun _=> ?_) fun _=> ?_|refine a_ne rfl rfl (fun _=> ?_) fun _=> ?_)
  rename_i s2 hs2
  exact zk_ret1 (.inr rfl) rfl rfl ⟨⟨_,rfl,by omega⟩,rfl⟩
theorem port_calls {w:World} (a p:List UInt8) (ha:a.length≤big) (hp:p.length≤big):Calls Tryz.prog 168 [.string (bs a),.string (bs p)].toArray w fun e w'=>(∃(k:Nat) (q:Bool),e= .returned (.tuple #[.int .i64 k,.bool q])∧k≤65535)∧w'=w:=by
 refine zCz 33 Tryz.func168 ?_
 repeat' (first|refine za ?_|refine a_cutW rfl rfl rfl fun _ _=> ?_|refine a_catW rfl rfl fun _ _=> ?_|refine a_idxW rfl rfl fun _ _=> ?_|refine a_addW rfl rfl fun _ _=> ?_|refine a_subW rfl rfl fun _ _=> ?_|refine a_min rfl rfl fun _ _ _ _=> ?_|refine a_max rfl rfl fun _ _ _ _=> ?_|refine a_shr rfl rfl fun _ _=> ?_|refine a_and rfl rfl fun _ _=> ?_|refine a_cmp rfl rfl rfl (fun _=> ?_) fun _=> ?_|refine a_eq rfl rfl (fun _=> ?_) fun _=> ?_|refine a_ne rfl rfl (fun _=> ?_) fun _=> ?_)
 ·exact zk_ret2 (.inr rfl) rfl rfl rfl ⟨⟨0,_,rfl,by omega⟩,rfl⟩
 ·refine zCl rfl (number_calls p hp) ?_
  rintro _ v ⟨⟨k,rfl,hk⟩,hv⟩
  obtain rfl:=hv.symm
  refine ⟨_,rfl,?_⟩
  repeat' (first|refine za ?_|refine a_cutW rfl rfl rfl fun _ _=> ?_|refine a_catW rfl rfl fun _ _=> ?_|refine a_idxW rfl rfl fun _ _=> ?_|refine a_addW rfl rfl fun _ _=> ?_|refine a_subW rfl rfl fun _ _=> ?_|refine a_min rfl rfl fun _ _ _ _=> ?_|refine a_max rfl rfl fun _ _ _ _=> ?_|refine a_shr rfl rfl fun _ _=> ?_|refine a_and rfl rfl fun _ _=> ?_|refine a_cmp rfl rfl rfl (fun _=> ?_) fun _=> ?_|refine a_eq rfl rfl (fun _=> ?_) fun _=> ?_|refine a_ne rfl rfl (fun _=> ?_) fun _=> ?_)
  refine zCl rfl (digits_calls p hp) ?_
  rintro _ v2 ⟨⟨q,rfl⟩,hv2⟩
  obtain rfl:=hv2.symm
  refine ⟨_,rfl,?_⟩
  cases q
  ·repeat' (first|refine za ?_|refine a_cutW rfl rfl rfl fun _ _=> ?_|refine a_catW rfl rfl fun _ _=> ?_|refine a_idxW rfl rfl fun _ _=> ?_|refine a_addW rfl rfl fun _ _=> ?_|refine a_subW rfl rfl fun _ _=> ?_|refine a_min rfl rfl fun _ _ _ _=> ?_|refine a_max rfl rfl fun _ _ _ _=> ?_|refine a_shr rfl rfl fun _ _=> ?_|refine a_and rfl rfl fun _ _=> ?_|refine a_cmp rfl rfl rfl (fun _=> ?_) fun _=> ?_|refine a_eq rfl rfl (fun _=> ?_) fun _=> ?_|refine a_ne rfl rfl (fun _=> ?_) fun _=> ?_)
   exact zk_ret2 (.inr rfl) rfl rfl rfl ⟨⟨0,_,rfl,by omega⟩,rfl⟩
  ·repeat' (first|refine za ?_|refine a_cutW rfl rfl rfl fun _ _=> ?_|refine a_catW rfl rfl fun _ _=> ?_|refine a_idxW rfl rfl fun _ _=> ?_|refine a_addW rfl rfl fun _ _=> ?_|refine a_subW rfl rfl fun _ _=> ?_|refine a_min rfl rfl fun _ _ _ _=> ?_|refine a_max rfl rfl fun _ _ _ _=> ?_|refine a_shr rfl rfl fun _ _=> ?_|refine a_and rfl rfl fun _ _=> ?_|refine a_cmp rfl rfl rfl (fun _=> ?_) fun _=> ?_|refine a_eq rfl rfl (fun _=> ?_) fun _=> ?_|refine a_ne rfl rfl (fun _=> ?_) fun _=> ?_)
   all_goals first|exact zk_ret2 (.inr rfl) rfl rfl rfl ⟨⟨0,_,rfl,by omega⟩,rfl⟩|exact zk_ret2 (.inr rfl) rfl rfl rfl ⟨⟨k,_,rfl,by omega⟩,rfl⟩
theorem dots_calls {w:World} (l:List UInt8) (hl:l.length≤big):Calls Tryz.prog 195 [.string (bs l)].toArray w fun e w'=>(∃k:Nat,e= .returned (.int .i64 k)∧k≤2)∧Chg w w' No:=by
 refine zCz 13 Tryz.func195 ?_
 repeat' (first|refine za ?_|refine a_cutW rfl rfl rfl fun _ _=> ?_|refine a_catW rfl rfl fun _ _=> ?_|refine a_idxW rfl rfl fun _ _=> ?_|refine a_addW rfl rfl fun _ _=> ?_|refine a_subW rfl rfl fun _ _=> ?_|refine a_min rfl rfl fun _ _ _ _=> ?_|refine a_max rfl rfl fun _ _ _ _=> ?_|refine a_shr rfl rfl fun _ _=> ?_|refine a_and rfl rfl fun _ _=> ?_|refine a_cmp rfl rfl rfl (fun _=> ?_) fun _=> ?_|refine a_eq rfl rfl (fun _=> ?_) fun _=> ?_|refine a_ne rfl rfl (fun _=> ?_) fun _=> ?_)
 refine zCl rfl (fold_calls l hl) ?_
 rintro _ v ⟨⟨s,rfl,hs⟩,hC⟩
 refine ⟨_,rfl,?_⟩
 repeat' (first|refine za ?_|refine a_cutW rfl rfl rfl fun _ _=> ?_|refine a_catW rfl rfl fun _ _=> ?_|refine a_idxW rfl rfl fun _ _=> ?_|refine a_addW rfl rfl fun _ _=> ?_|refine a_subW rfl rfl fun _ _=> ?_|refine a_min rfl rfl fun _ _ _ _=> ?_|refine a_max rfl rfl fun _ _ _ _=> ?_|refine a_shr rfl rfl fun _ _=> ?_|refine a_and rfl rfl fun _ _=> ?_|refine a_cmp rfl rfl rfl (fun _=> ?_) fun _=> ?_|refine a_eq rfl rfl (fun _=> ?_) fun _=> ?_|refine a_ne rfl rfl (fun _=> ?_) fun _=> ?_)
 all_goals first|exact zk_ret1 (.inr rfl) rfl rfl ⟨⟨0,rfl,by omega⟩,hC⟩|exact zk_ret1 (.inr rfl) rfl rfl ⟨⟨1,rfl,by omega⟩,hC⟩|exact zk_ret1 (.inr rfl) rfl rfl ⟨⟨2,rfl,by omega⟩,hC⟩
end Go.Proofs.YtbcmiijollpgeaaGreat.V
