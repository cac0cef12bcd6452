import Derived.Test.YtbcmiijollpgeaaGreatWJ
set_option maxHeartbeats 32000000
set_option maxRecDepth 100000
set_option linter.unusedVariables false
set_option linter.unusedSimpArgs false
namespace Go.Proofs.YtbcmiijollpgeaaGreat.D
open Go Go.Z Go.Proofs
def fmtN:List (List UInt8):= [[97],[99,111,100,101],[101,109],[115,116,114,111,110,103]]
def cellN:List (List UInt8):= [[116,100],[116,104]]
def mk1 (n:Nat) (nm:List UInt8):List (Int×List UInt8):=if nm∈fmtN then [((n:Nat),nm)] else if nm∈cellN then [(-1,[])] else []
def mks:List Nat→List FE→List (Int×List UInt8)
 |n::R,f::fr=>mks R fr++mk1 n f.nm
 |_,_=> []
def MK.key (m:MK):Int×List UInt8:=(m.n,m.nm)
def MOk (M:List MK) (R:List Nat) (fr:List FE):Prop:=M.map MK.key=mks R fr
def upN:List FE→List (List UInt8)
 | []=> []
 |f::fr=>if f.nm∈cellN then [] else f.nm::upN fr
theorem mk1_in {n:Nat} {nm:List UInt8}: ∀x∈mk1 n nm,x.1= -1∨x.1=(n:Nat):=by
 intro x hx
 unfold mk1 at hx
 split at hx
 ·simp only [List.mem_singleton] at hx;subst hx;exact .inr rfl
 ·split at hx
  ·simp only [List.mem_singleton] at hx;subst hx;exact .inl rfl
  ·cases hx
theorem mk1_len {n:Nat} {nm:List UInt8}:(mk1 n nm).length≤1:=by
 unfold mk1
 split
 ·exact Nat.le_refl _
 ·split
  ·exact Nat.le_refl _
  ·exact Nat.zero_le _
theorem mks_in: ∀(R:List Nat) (fr:List FE),∀x∈mks R fr,x.1= -1∨ ∃n∈R,x.1=((n:Nat):Int)
 | [],_=>by simp [mks]
 |n::R,[]=>by simp [mks]
 |n::R,f::fr=>by
  intro x hx
  rcases List.mem_append.1 hx with h|h
  ·rcases mks_in R fr x h with h1|⟨k,h1,h2⟩
   ·exact .inl h1
   ·exact .inr ⟨k,List.mem_cons_of_mem _ h1,h2⟩
  ·rcases mk1_in x h with h1|h1
   ·exact .inl h1
   ·exact .inr ⟨n,List.mem_cons_self,h1⟩
theorem mks_len: ∀(R:List Nat) (fr:List FE),(mks R fr).length≤fr.length
 | [],_=>by simp [mks]
 |n::R,[]=>by simp [mks]
 |n::R,f::fr=>by
  have h1:=mks_len R fr
  have h2:= @mk1_len n f.nm
  show (mks R fr++mk1 n f.nm).length≤_
  rw [List.length_append,List.length_cons]
  omega
theorem MOk.len {M:List MK} {R:List Nat} {fr:List FE} (h:MOk M R fr):M.length≤fr.length:=by
 have h1:=mks_len R fr
 rw [←h,List.length_map] at h1
 exact h1
theorem key_getD (M:List MK) (i:Nat) (hi:i<M.length):(M.map MK.key)[i]? =some ((M.getD i mk0).n,(M.getD i mk0).nm):=by
 rw [List.getElem?_map,List.getElem?_eq_getElem hi,List.getD_eq_getElem?_getD,List.getElem?_eq_getElem hi];rfl
theorem MOk.at_ {M:List MK} {R:List Nat} {fr:List FE} (h:MOk M R fr) (i:Nat) (hi:i<M.length):(M.getD i mk0).n= -1∨ ∃n∈R,(M.getD i mk0).n=((n:Nat):Int):=by
 have h1:=key_getD M i hi
 rw [h] at h1
 exact mks_in R fr _ (List.mem_of_getElem? h1)
theorem wallK_app (M:List MK) (x:MK): ∀k,k≤M.length→wallK (M++ [x]) k=wallK M k
 |0,_=>rfl
 |k+1,h=>by
  have e:(M++ [x]).getD k mk0=M.getD k mk0:=by rw [List.getD_eq_getElem?_getD,List.getD_eq_getElem?_getD,List.getElem?_append_left (by omega)]
  unfold wallK
  rw [e,wallK_app M x k (by omega)]
theorem MOk.snoc {M:List MK} {R:List Nat} {fr:List FE} {n:Nat} {f:FE} {y:Int×List UInt8} (h:MOk M (n::R) (f::fr)) (hy:mk1 n f.nm= [y]): ∃M0 x,M=M0++ [x]∧x.key=y∧MOk M0 R fr:=by
 have h1:M.map MK.key=mks R fr++ [y]:=by rw [h];show mks R fr++mk1 n f.nm=_;rw [hy]
 obtain ⟨M0,M1,e1,e2,e3⟩:=List.map_eq_append_iff.1 h1
 obtain ⟨x,M2,e4,e5,e6⟩:=List.map_eq_cons_iff.1 e3
 rw [List.map_eq_nil_iff] at e6
 subst e6 e4 e1
 exact ⟨M0,x,rfl,e5,e2⟩
theorem MOk.skip {M:List MK} {R:List Nat} {fr:List FE} {n:Nat} {f:FE} (h:MOk M (n::R) (f::fr)) (hy:mk1 n f.nm= []):MOk M R fr:=by
 unfold MOk at*
 rw [h]
 show mks R fr++mk1 n f.nm=_
 rw [hy,List.append_nil]
theorem getD_last (M:List MK) (x:MK):(M++ [x]).getD M.length mk0=x:=by rw [List.getD_eq_getElem?_getD,List.getElem?_append_right (Nat.le_refl _),Nat.sub_self];rfl
theorem getD_left (M:List MK) (x:MK) (i:Nat) (h:i<M.length):(M++ [x]).getD i mk0=M.getD i mk0:=by rw [List.getD_eq_getElem?_getD,List.getD_eq_getElem?_getD,List.getElem?_append_left h]
theorem MOk.up: ∀{fr:List FE} {R:List Nat} {M:List MK},MOk M R fr→ ∀j,wallK M M.length≤j→j<M.length→(M.getD j mk0).nm∈upN fr
 | [],R,M,h=>fun j _ hj=>by
  have:=h.len
  simp at this
  subst this
  simp at hj
 |f::fr,[],M,h=>fun j _ hj=>by
  have h1:M.map MK.key= []:=h
  rw [List.map_eq_nil_iff] at h1
  subst h1
  simp at hj
 |f::fr,n::R,M,h=>fun j hw hj=>by
  unfold upN
  by_cases hf:f.nm∈fmtN
  ·obtain ⟨M0,x,rfl,hx,h0⟩:=h.snoc (y:=((n:Nat),f.nm)) (by unfold mk1;rw [if_pos hf])
   have hc:f.nm∉cellN:=by
    revert hf
    have: ∀a∈fmtN,a∉cellN:=by decide
    exact this _
   rw [if_neg hc]
   have hxn: ¬x.n<0:=by have:=congrArg Prod.fst hx;simp only [MK.key] at this;omega
   by_cases he:j=M0.length
   ·subst he
    rw [getD_last]
    have:=congrArg Prod.snd hx
    simp only [MK.key] at this
    rw [this]
    exact List.mem_cons_self
   ·have hl:(M0++ [x]).length=M0.length+1:=by simp
    rw [hl] at hw hj
    have e:wallK (M0++ [x]) (M0.length+1)=wallK M0 M0.length:=by
     show (if ((M0++ [x]).getD M0.length mk0).n<0 then M0.length+1 else wallK (M0++ [x]) M0.length)=_
     rw [getD_last,if_neg hxn,wallK_app M0 x _ (Nat.le_refl _)]
    rw [e] at hw
    rw [getD_left _ _ _ (by omega)]
    exact List.mem_cons_of_mem _ (h0.up j hw (by omega))
  ·by_cases hc:f.nm∈cellN
   ·obtain ⟨M0,x,rfl,hx,h0⟩:=h.snoc (y:=(-1,[])) (by unfold mk1;rw [if_neg hf,if_pos hc])
    have hxn:x.n<0:=by have:=congrArg Prod.fst hx;simp only [MK.key] at this;omega
    have hl:(M0++ [x]).length=M0.length+1:=by simp
    rw [hl] at hw hj
    have e:wallK (M0++ [x]) (M0.length+1)=M0.length+1:=by
     show (if ((M0++ [x]).getD M0.length mk0).n<0 then M0.length+1 else wallK (M0++ [x]) M0.length)=_
     rw [getD_last,if_pos hxn]
    omega
   ·rw [if_neg hc]
    exact List.mem_cons_of_mem _ ((h.skip (by unfold mk1;rw [if_neg hf,if_neg hc])).up j hw hj)
theorem findM_none {M:List MK} {nm:List UInt8} {wl:Nat}: ∀k,(∀j,wl≤j→j<k→(M.getD j mk0).nm≠nm)→findM M nm wl k= -1
 |0,_=>rfl
 |k+1,h=>by
  unfold findM
  by_cases hk:k<wl
  ·rw [if_pos hk]
  ·rw [if_neg hk,if_neg (h k (by omega) (by omega))]
   exact findM_none k fun j h1 h2=>h j h1 (by omega)
section
variable {w w' w0 w1 w2 : World} {t : Nat} {q q' q1 : SQ} {N N' : List ND} {n m : Nat} {R R' : List Nat} {f g : FE} {fr fr' : List FE} {l : List Nat}
theorem done_calls (h:IsS w t q N R (f::fr)) (hf:fr.length≤998) (hM:MOk q.M R (f::fr)) (i:Nat) (hi:i<q.M.length):Calls Tryz.prog 153 [.pointer (some ⟨t,0,none⟩),.int .i64 (i:Nat)].toArray w fun e w'=>e= .returned (.bool true)∧Chg w w' No:=by
 have hb:=h.site.blk
 have hMl:=hM.len
 simp only [List.length_cons] at hMl
 have hat:=hM.at_ i hi
 obtain ⟨xn,hxn⟩: ∃xn,xn=(q.M.getD i mk0).n:=⟨_,rfl⟩
 refine zCz 26 Tryz.func153 ?_
 refine zz ?_
 refine zCr rfl (mkAt_calls h.mar i hi (by omega)) fun w1 hC1=> ?_
 rw [←hxn]
 rw [←hxn] at hat
 refine zP rfl (zP rfl (zP rfl ?_))
 refine zAl (fun w2 b2 hN2=> ?_)
 have hb2:Blk w2 b2 173 [.int .i64 0,.string ⟨#[]⟩,.slice none 0 0]:=hN2.blk
 have hge:=hN2.ge hC1
 refine z_store (want_L rfl) rfl rfl rfl (by assumption) (by first|exact Nat.le_refl _|simp [Value.cells]) (by simp [Value.cells,Value.oneCell']) (fun w3 hU3=> ?_)
 have hC3:Chg w w3 No:=(hC1.no hN2.chg).upd hU3 hge
 have hb3:Blk w3 b2 173 [.int .i64 xn,.string (bs (q.M.getD i mk0).nm),.slice (q.M.getD i mk0).A (q.M.getD i mk0).l (q.M.getD i mk0).c]:=hU3.blk
 by_cases hneg:xn<0
 ·refine zz ?_
  exact zk_ret1 (.inr rfl) rfl rfl ⟨rfl,hC3⟩
 ·obtain ⟨n,hn,he⟩: ∃n∈R,xn=((n:Nat):Int):=by
   rcases hat with h1|h1
   ·omega
   ·exact h1
  subst he
  refine zz ?_
  refine zCl rfl (sPlaceR_calls (h.no hC3) hf n hn) ?_
  rintro _ u ⟨⟨j,rfl⟩,hu⟩
  obtain rfl:=hu.symm
  refine ⟨_,rfl,?_⟩
  refine zz ?_
  exact zk_ret1 (.inr rfl) rfl rfl ⟨rfl,hC3⟩
theorem done_calls' (h:IsS w t q N R (f::fr)) (hf:fr.length≤998) (hM:MOk q.M R (f::fr)) (i:Nat) (hi:i<q.M.length) (z:Int) (hz:z=(i:Nat)):Calls Tryz.prog 153 [.pointer (some ⟨t,0,none⟩),.int .i64 z].toArray w fun e w'=>e= .returned (.bool true)∧Chg w w' No:=by subst hz;exact done_calls h hf hM i hi
theorem rebuild_calls (h:IsS w t q N R (f::fr)) (hf:fr.length≤998) (hM:MOk q.M R (f::fr)):Calls Tryz.prog 131 [.pointer (some ⟨t,0,none⟩)].toArray w fun e w'=>e= .returned (.tuple #[])∧Chg w w' No:=by
 have hb:=h.site.blk
 have hMl:=hM.len
 simp only [List.length_cons] at hMl
 refine zCz 61 Tryz.func131 ?_
 refine zz ?_
 refine zCp rfl (mkLen_calls h.mar) ?_
 by_cases h0:q.M.length=0
 ·rw [h0]
  refine zz ?_
  exact zk_ret0 (.inr rfl) rfl ⟨rfl,Chg.refl _ _⟩
 ·obtain ⟨k,hk⟩: ∃k,q.M.length=k+1:=⟨q.M.length - 1,by omega⟩
  rw [hk]
  refine zz ?_
  refine zCr rfl (done_calls' h hf hM k (by omega) _ (by omega)) fun w1 hC1=> ?_
  refine zz ?_
  exact zk_ret0 (.inr rfl) rfl ⟨rfl,hC1⟩
end
structure IsB (w:World) (b t:Nat) (q:SQ) (N:List ND) (R:List Nat) (fr:List FE) (sk:Bool):Prop where
 blk:Blk w b 64 [.pointer (some ⟨t,0,none⟩),.int .i64 0,.string ⟨#[]⟩,.bool sk]
 st:IsS w t q N R fr
def ftB (b t:Nat) (q:SQ) (k:Nat):Prop:=k=b∨ftS t q k
structure WrB (w w':World) (b t:Nat) (q q':SQ):Prop where
 chg:Chg w w' (ftB b t q)
 ft: ∀k,ftB b t q' k→ftB b t q k∨w.heap.size≤k
def BPost (w:World) (b t:Nat) (q:SQ) (fr:List FE) (sk:Bool) (n:Nat) (x:Value) (e:Ending) (w':World):Prop:=
 e= .returned x∧ ∃q' N' R',IsB w' b t q' N' R' fr sk∧MOk q'.M R' fr∧WrB w w' b t q q'∧N'.length≤n
section
variable {w w' w0 w1 w2 : World} {b t : Nat} {q q' q1 : SQ} {N N' : List ND} {n m k : Nat} {R R' : List Nat} {f g : FE} {fr fr' : List FE} {sk sk' : Bool} {x : Value} {e : Ending}
theorem WrB.of_no (hc:Chg w w' No) (b t:Nat) (q:SQ):WrB w w' b t q q:=⟨hc.mono (fun _ _ h=>h.elim),fun _ h=> .inl h⟩
theorem WrB.trans (h:WrB w w1 b t q q1) (k:WrB w1 w2 b t q1 q'):WrB w w2 b t q q':=by
 refine ⟨h.chg.trans k.chg (fun i hi hf=> ?_),fun i hf=> ?_⟩
 ·rcases h.ft i hf with h1|h1
  ·exact h1
  ·omega
 ·rcases k.ft i hf with h1|h1
  ·exact h.ft i h1
  ·exact .inr (Nat.le_trans h.chg.size h1)
theorem WrS.toB (h:WrS w w' t q q') (b:Nat):WrB w w' b t q q':=⟨h.chg.mono (fun k _ hk=> .inr hk),fun k hk=>by
 rcases hk with rfl|hk
 ·exact .inl (.inl rfl)
 ·exact (h.ft k hk).imp (fun h=> .inr h) id⟩
theorem IsB.no (h:IsB w b t q N R fr sk) (hc:Chg w w' No):IsB w' b t q N R fr sk:=⟨h.blk.no hc,h.st.no hc⟩
theorem IsB.noT (h:IsB w b t q N R fr sk) {k ty:Nat} {cs:List Value} (hb:Blk w k ty cs) (hn:ty∉bT): ¬ftB b t q k:=by
 rintro (hk|hk)
 ·exact hb.ne h.blk (fun he=>hn (by rw [he];decide)) hk
 ·exact h.st.noT hb (fun hs=>hn (by
   revert hs
   have: ∀a∈sT,a∈bT:=by decide
   exact this ty)) hk
theorem WrB.keep (h:IsB w b t q N R fr sk) (hW:WrB w w' b t q q'):Keep bT w w':=⟨hW.chg.size,fun k ty cs hb hn=>hb.chg hW.chg (h.noT hb hn)⟩
theorem IsB.stW (h:IsB w b t q N R fr sk) (hS:IsS w' t q' N' R' fr') (hW:WrS w w' t q q'):IsB w' b t q' N' R' fr' sk∧WrB w w' b t q q':=
 ⟨⟨h.blk.chg hW.chg (h.st.noT h.blk (by decide)),hS⟩,hW.toB b⟩
theorem SPost.toB {M:List MK} (h:IsB w b t q N R fr sk) (hp:SPost w t q R' fr' M n x e w') (hM:MOk M R' fr'):BPost w b t q fr' sk n x e w':=by
 obtain ⟨h1,q',N',h2,h3,h4,h5⟩:=hp
 obtain ⟨g1,g2⟩:=h.stW h2 h3
 exact ⟨h1,q',N',R',g1,h4▸hM,g2,h5⟩
theorem BPost.pre (hC:Chg w w1 No) (h:BPost w1 b t q fr sk n x e w'):BPost w b t q fr sk n x e w':=by
 obtain ⟨h1,q',N',R',h2,h3,h4,h5⟩:=h
 exact ⟨h1,q',N',R',h2,h3,(WrB.of_no hC _ _ _).trans h4,h5⟩
theorem BPost.preW (hW:WrB w w1 b t q q1) (h:BPost w1 b t q1 fr sk n x e w'):BPost w b t q fr sk n x e w':=by
 obtain ⟨h1,q',N',R',h2,h3,h4,h5⟩:=h
 exact ⟨h1,q',N',R',h2,h3,hW.trans h4,h5⟩
theorem BPost.ret {y:Value} (h:BPost w b t q fr sk n x e w') (hC:Chg w' w2 No):BPost w b t q fr sk n y (.returned y) w2:=by
 obtain ⟨h1,q',N',R',h2,h3,h4,h5⟩:=h
 exact ⟨rfl,q',N',R',h2.no hC,h3,h4.trans (WrB.of_no hC _ _ _),h5⟩
theorem mk1_none {n:Nat} {nm:List UInt8} (h1:nm∉fmtN) (h2:nm∉cellN):mk1 n nm= []:=by unfold mk1;rw [if_neg h1,if_neg h2]
theorem MOk.open_ {M:List MK} (h:MOk M R fr) (h1:f.nm∉fmtN) (h2:f.nm∉cellN):MOk M (n::R) (f::fr):=by
 unfold MOk at*
 rw [h]
 show _=mks R fr++mk1 n f.nm
 rw [mk1_none h1 h2,List.append_nil]
theorem MOk.rename {M:List MK} (h:MOk M (n::R) (f::fr)) (he:g.nm=f.nm):MOk M (n::R) (g::fr):=by
 unfold MOk at*
 rw [h]
 show mks R fr++mk1 n f.nm=mks R fr++mk1 n g.nm
 rw [he]
theorem enter_calls (h:IsB w b t q N (n::R) (f::fr) sk) (hf:fr.length≤900) (hl:N.length≤1900000) (nm:List UInt8) (al:List T.At) {va:Value} (ha:AttrS w va (encT al)) (hal:al.length≤1000000):
  Calls Tryz.prog 129 [.pointer (some ⟨b,0,none⟩),T.tokV 1 nm va []].toArray w (SPost w t q (N.length::n::R) (⟨nm,al,.nil⟩::f::fr) q.M (N.length+1) (.tuple #[])):=by
 have hb:=h.blk
 obtain ⟨A0,c0,rfl,_⟩:=ha.form
 unfold T.tokV
 refine zCz 13 Tryz.func129 ?_
 refine zS (zR ?_)
 refine zBx rfl (fun w1 b3 hN1=> ?_)
 have hb3:Blk w1 b3 66 [.int .i64 1,.string (bs nm),.slice A0 (encT al).length c0,.bool false,.string (bs [])]:=hN1.blk
 have hb1:=hb.no hN1.chg
 have h1:=h.no hN1.chg
 refine zN (zK ?_)
 refine zc_draw [] (fun w'=>Blk w' b 64 [.pointer (some ⟨t,0,none⟩),.int .i64 0,.string ⟨#[]⟩,.bool sk]∧Blk w' b3 66 [.int .i64 1,.string (bs nm),.slice A0 (encT al).length c0,.bool false,.string (bs [])]) (.take 0 (.take 1 (.take 2 (.take 3 (.take 4 (.take 5 (.take 6 (.take 7 (.all1 8 (.fin)))))))))) (by rfl) (by kernel_rfl) (by kernel_rfl) (fun w2 hC2 _=>⟨?_,?_⟩)
 ·exact ⟨hb1.no hC2,hb3.no hC2⟩
 refine zz ?_
 have h2:=h1.no hC2
 refine zs_call rfl (want_L rfl) rfl (by decide) rfl (sAdd_calls h2.st (by omega) (by omega) nm al ((ha.no hN1.chg).no hC2) hal) ?_
 rintro _ w3 hp
 have hk:=hp.2
 obtain ⟨q',N',g1,g2,g3,g4⟩:=hk
 have hkp:=WrS.keep h2.st g2
 obtain rfl:=hp.1
 refine ⟨_,rfl,⟨hkp.2 _ _ _ h2.blk (by decide),hkp.2 _ _ _ (hb3.no hC2) (by decide)⟩,?_⟩
 refine zs_fin ?_
 exact zk_ret0 (.inl rfl) rfl ⟨rfl,q',N',g1,(WrS.of_no (hN1.chg.no hC2) _ _).trans g2,g3,g4⟩
theorem closeP_calls (h:IsB w b t q N (n::R) (f::fr) sk) (hf:fr.length≤900) (hp: ∀g∈f::fr,g.nm≠ [112]):Calls Tryz.prog 157 [.pointer (some ⟨b,0,none⟩)].toArray w fun e w'=>e= .returned (.tuple #[])∧Chg w w' No:=by
 have hb:=h.blk
 refine zCz 19 Tryz.func157 ?_
 refine zz ?_
 refine zB1 rfl (fun w1 cb hM1=> ?_)
 have hr:RdS w1 9 1 (.slice (some ⟨cb,0,none⟩) 1 1) 1 (T.cellsS [[112]]):=RdS.new hM1 rfl (T.cellsS_one _)
 have hC1:=hM1.chg
 refine zCl rfl (sHas_calls (h.no hC1).st (by omega) (l:= [[112]]) hr (by decide) 3 (by decide)) ?_
 rintro _ w2 ⟨⟨y,rfl,_,hy⟩,hC2⟩
 refine ⟨_,rfl,?_⟩
 rw [hy (by decide) (fun g hg hm=>hp g hg (by simpa using hm))]
 refine zz ?_
 exact zk_ret0 (.inl rfl) rfl ⟨rfl,hC1.no hC2⟩
end
section
variable {w w' w0 w1 w2 : World} {b t : Nat} {q q' q1 : SQ} {N N' : List ND} {n m k : Nat} {R R' : List Nat} {f g : FE} {fr fr' : List FE} {sk sk' : Bool} {x : Value} {e : Ending}
theorem leaf_calls (h:IsB w b t q N (n::R) (f::fr) sk) (hM:MOk q.M (n::R) (f::fr)) (hf:fr.length≤900) (hl:N.length≤1900000) (nm:List UInt8) (al:List T.At) {va:Value} (ha:AttrS w va (encT al)) (hal:al.length≤1000000):
  Calls Tryz.prog 156 [.pointer (some ⟨b,0,none⟩),T.tokV 1 nm va []].toArray w (BPost w b t q (f.shut ⟨nm,al,.nil⟩::fr) sk (N.length+1) (.tuple #[])):=by
 obtain ⟨A0,c0,rfl,_⟩:=ha.form
 unfold T.tokV
 refine zCz 12 Tryz.func156 ?_
 refine zS (zR ?_)
 refine zBx rfl (fun w1 b3 hN1=> ?_)
 have hb3:Blk w1 b3 66 [.int .i64 1,.string (bs nm),.slice A0 (encT al).length c0,.bool false,.string (bs [])]:=hN1.blk
 have h1:=h.no hN1.chg
 refine zz ?_
 refine zCl rfl (enter_calls h1 hf hl nm al (ha.no hN1.chg) hal) ?_
 rintro _ w2 ⟨rfl,q1,N1,g1,g2,g3,g4⟩
 refine ⟨_,rfl,?_⟩
 obtain ⟨i1,i2⟩:=h1.stW g1 g2
 have hb2:=i1.blk
 refine zz ?_
 refine zCl rfl (sPop_calls i1.st (by omega)) ?_
 rintro _ w3 ⟨rfl,q2,N2,g5,g6,g7,g8⟩
 refine ⟨_,rfl,?_⟩
 obtain ⟨i3,i4⟩:=i1.stW g5 g6
 refine zN ?_
 exact zk_ret0 (.inl rfl) rfl ⟨rfl,q2,N2,n::R,i3,by rw [g7,g3];exact hM.rename rfl,(WrB.of_no hN1.chg _ _ _).trans (i2.trans i4),by omega⟩
theorem format_calls (h:IsB w b t q N (n::R) (f::fr) sk) (hM:MOk q.M (n::R) (f::fr)) (hf:fr.length≤900) (hl:N.length≤1900000) (nm:List UInt8) (al:List T.At) {va:Value} (ha:AttrS w va (encT al)) (hal:al.length≤1000000) (hfm:nm∈fmtN) (hup:nm∉upN (f::fr)):
  Calls Tryz.prog 181 [.pointer (some ⟨b,0,none⟩),T.tokV 1 nm va []].toArray w (BPost w b t q (⟨nm,al,.nil⟩::f::fr) sk (N.length+1) (.tuple #[])):=by
 have hMl:=hM.len
 simp only [List.length_cons] at hMl
 obtain ⟨A0,c0,rfl,_⟩:=ha.form
 unfold T.tokV
 refine zCz 25 Tryz.func181 ?_
 refine zS (zR ?_)
 refine zBx rfl (fun w1 b3 hN1=> ?_)
 have hb3:Blk w1 b3 66 [.int .i64 1,.string (bs nm),.slice A0 (encT al).length c0,.bool false,.string (bs [])]:=hN1.blk
 have h1:=h.no hN1.chg
 refine zz ?_
 refine zCl rfl (enter_calls h1 hf hl nm al (ha.no hN1.chg) hal) ?_
 rintro _ w2 ⟨rfl,q1,N1,g1,g2,g3,g4⟩
 refine ⟨_,rfl,?_⟩
 obtain ⟨i1,i2⟩:=h1.stW g1 g2
 have hb2:=i1.blk
 have hb32:=(WrS.keep h1.st g2).2 _ _ _ hb3 (by decide)
 have hbt:=i1.st.site.blk
 refine zN (zK ?_)
 refine zc_draw [] (fun w'=>Blk w' b 64 [.pointer (some ⟨t,0,none⟩),.int .i64 0,.string ⟨#[]⟩,.bool sk]∧Blk w' b3 66 [.int .i64 1,.string (bs nm),.slice A0 (encT al).length c0,.bool false,.string (bs [])]∧Blk w' t 74 [.pointer (some ⟨q1.r.pd,0,none⟩),.pointer (some ⟨q1.r.pm,0,none⟩),q1.r.vrow,.bool false]) (.take 0 (.take 1 (.take 2 (.take 3 (.take 4 (.take 5 (.take 6 (.take 7 (.take 8 (.take 9 (.take 10 (.take 12 (.take 13 (.take 14 (.take 15 (.all1 11 (.take 16 (.all1 17 (.fin))))))))))))))))))) (by rfl) (by kernel_rfl) (by kernel_rfl) (fun w3 hC3 _=>⟨?_,?_⟩)
 ·exact ⟨hb2.no hC3,hb32.no hC3,hbt.no hC3⟩
 refine zz ?_
 refine zs_call rfl (want_L rfl) rfl (by decide) rfl (sTop_calls (i1.no hC3).st (by simp only [List.length_cons];omega)) ?_
 rintro _ w4 ⟨rfl,hC4⟩
 have hC4:=hC3.no hC4
 refine ⟨_,rfl,⟨hb2.no hC4,hb32.no hC4,hbt.no hC4⟩,?_⟩
 have i4:=i1.no hC4
 refine zRd rfl rfl (fun _ hS=>r_build' (cells:= #[.int .i64 (N.length:Nat),.string (bs nm),.slice A0 (encT al).length c0]) rfl (by kernel_rfl)) ?_
 have hno: ∀j,wallK q1.M q1.M.length≤j→j<q1.M.length→(q1.M.getD j mk0).nm≠(⟨(N.length:Nat),nm,A0,(encT al).length,c0⟩:MK).nm:=fun j hj1 hj2 he=>by
  rw [g3] at hj1 hj2 he
  have hu:=hM.up j hj1 hj2
  rw [he] at hu
  exact hup hu
 refine zs_call rfl (want_L rfl) rfl (by decide) rfl (mkPush_calls i4.st.mar (by rw [g3];omega) ⟨(N.length:Nat),nm,A0,(encT al).length,c0⟩ hno) ?_
 rintro _ w5 ⟨rfl,vm,g5,g6,g7⟩
 obtain ⟨j1,j2⟩:=i4.st.mkW g5 g6 g7
 obtain ⟨j3,j4⟩:=i4.stW j1 j2
 refine ⟨_,rfl,⟨j3.blk,(WrS.keep i4.st j2).2 _ _ _ (hb32.no hC4) (by decide),j3.st.site.blk⟩,?_⟩
 refine zs_fin ?_
 refine zk_ret0 (.inl rfl) rfl ⟨rfl,_,N1,N.length::n::R,j3,?_,(WrB.of_no hN1.chg _ _ _).trans (i2.trans ((WrB.of_no hC4 _ _ _).trans j4)),g4⟩
 show (q1.M++ [(⟨(N.length:Nat),nm,A0,(encT al).length,c0⟩:MK)]).map MK.key=mks (n::R) (f::fr)++mk1 N.length nm
 rw [List.map_append,g3,hM,show mk1 N.length nm= [(((N.length:Nat):Int),nm)] by unfold mk1;rw [if_pos hfm]]
 rfl
theorem shut_calls (h:IsB w b t q N (n::m::R) (f::g::fr) sk) (hM:MOk q.M (n::m::R) (f::g::fr)) (hf:fr.length≤900) (h1:f.nm∉fmtN) (h2:f.nm∉cellN) (but:List UInt8) (hbut:f.nm∈B.wd (B.setW 4)→f.nm=but) (sc:Int) (hsc:sc=1∨sc=2∨sc=3∨sc=4):
  Calls Tryz.prog 161 [.pointer (some ⟨b,0,none⟩),.int .i64 sc,.string (bs but),.string (bs f.nm)].toArray w (BPost w b t q (g.shut f::fr) sk N.length (.bool true)):=by
 have hb:=h.blk
 refine zCz 31 Tryz.func161 ?_
 refine zz ?_
 refine zB1 rfl (fun w1 cb hM1=> ?_)
 have hr:RdS w1 9 1 (.slice (some ⟨cb,0,none⟩) 1 1) 1 (T.cellsS [f.nm]):=RdS.new hM1 rfl (T.cellsS_one _)
 have hC1:=hM1.chg
 refine zCl rfl (sHas_calls (h.no hC1).st (by simp only [List.length_cons];omega) (l:= [f.nm]) hr (by simp) sc hsc) ?_
 rintro _ w2 ⟨⟨y,rfl,hy,_⟩,hC2⟩
 refine ⟨_,rfl,?_⟩
 rw [hy (by simp) (by simp)]
 have hC2:=hC1.no hC2
 have hb2:=hb.no hC2
 refine zz ?_
 refine zCl rfl (sImply_calls (h.no hC2).st (by omega) but hbut) ?_
 rintro _ w3 ⟨rfl,hC3⟩
 have hC3:=hC2.no hC3
 refine ⟨_,rfl,?_⟩
 have hb3:=hb.no hC3
 refine zz ?_
 refine zB1 rfl (fun w4 cb hM4=> ?_)
 have hr:RdS w4 9 1 (.slice (some ⟨cb,0,none⟩) 1 1) 1 (T.cellsS [f.nm]):=RdS.new hM4 rfl (T.cellsS_one _)
 have hC4:=hC3.no hM4.chg
 refine zCl rfl (sPopTo_calls (h.no hC4).st (by omega) (l:= [f.nm]) hr (by simp) (by simp)) ?_
 rintro _ w5 hp
 obtain rfl:=hp.1
 refine ⟨_,rfl,?_⟩
 have hMM:MOk q.M (m::R) (g.shut f::fr):=(hM.skip (mk1_none h1 h2)).rename rfl
 have hbp:=BPost.pre hC4 (hp.toB (h.no hC4) hMM)
 refine zz ?_
 exact zk_ret1 (.inr rfl) rfl rfl hbp
theorem closeC_calls (h:IsB w b t q N (n::m::R) (f::g::fr) sk) (hM:MOk q.M (n::m::R) (f::g::fr)) (hf:fr.length≤900) (h1:f.nm∈cellN) {v:Value} {l:List (List UInt8)} (hr:RdS w 9 1 v l.length (T.cellsS l)) (hl:l.length≤100000) (hfl:f.nm∈l):
  Calls Tryz.prog 124 [.pointer (some ⟨b,0,none⟩),v].toArray w (BPost w b t q (g.shut f::fr) sk N.length (.tuple #[])):=by
 have hb:=h.blk
 obtain ⟨A0,c0,rfl,_⟩:=hr.form
 have hfm:f.nm∉fmtN:=by
  revert h1
  have: ∀a∈cellN,a∉fmtN:=by decide
  exact this _
 have him:f.nm∈B.wd (B.setW 4)→f.nm= []:=by
  revert h1
  have: ∀a∈cellN,a∈B.wd (B.setW 4)→a= []:=by decide+kernel
  exact this _
 have hMl:=hM.len
 simp only [List.length_cons] at hMl
 refine zCz 23 Tryz.func124 ?_
 refine zz ?_
 refine zCr rfl (sImply_calls h.st (by omega) [] him) fun w3 hC3=> ?_
 have hb3:=hb.no hC3
 refine zz ?_
 refine zCl rfl (sPopTo_calls (h.no hC3).st (by omega) (hr.no hC3) hl hfl) ?_
 rintro _ w5 ⟨rfl,q1,N1,g1,g2,g3,g4⟩
 refine ⟨_,rfl,?_⟩
 obtain ⟨i1,i2⟩:=(h.no hC3).stW g1 g2
 have hb5:=i1.blk
 have hbt:=i1.st.site.blk
 obtain ⟨M0,x,hq,hx,h0⟩:=hM.snoc (y:=(-1,[])) (by unfold mk1;rw [if_neg hfm,if_pos h1])
 have hq1:q1.M=M0++ [x]:=g3.trans hq
 have hcut:q1.M.take (wallK q1.M q1.M.length - 1)=M0:=by
  have hxn:x.n<0:=by have:=congrArg Prod.fst hx;simp only [MK.key] at this;omega
  rw [hq1,show (M0++ [x]).length=M0.length+1 by simp]
  have:wallK (M0++ [x]) (M0.length+1)=M0.length+1:=by
   show (if ((M0++ [x]).getD M0.length mk0).n<0 then M0.length+1 else wallK (M0++ [x]) M0.length)=_
   rw [getD_last,if_pos hxn]
  rw [this,Nat.add_sub_cancel,List.take_left]
 refine zz ?_
 refine zCl rfl (mkClear_calls i1.st.mar (by rw [g3];omega)) ?_
 rintro _ w6 ⟨rfl,vm,g5,g6,g7⟩
 rw [hcut] at g5
 refine ⟨_,rfl,?_⟩
 obtain ⟨j1,j2⟩:=i1.st.mkW g5 g6 g7
 obtain ⟨j3,j4⟩:=i1.stW j1 j2
 refine zN ?_
 exact zk_ret0 (.inl rfl) rfl ⟨rfl,_,N1,m::R,j3,h0.rename rfl,(WrB.of_no hC3 _ _ _).trans (i2.trans j4),g4⟩
theorem cut_calls (h:IsB w b t q N (n::m::R) (f::g::fr) sk) (hf:fr.length≤900) (i:Int) (hi:i=(fr.length+1:Nat)):
  Calls Tryz.prog 122 [.pointer (some ⟨b,0,none⟩),.int .i64 i].toArray w (SPost w t q (m::R) (g.shut f::fr) q.M N.length (.tuple #[])):=by
 have hlen:=h.st.len.1
 simp only [List.length_cons] at hlen
 refine zCz 19 Tryz.func122 ?_
 refine zB ?_
 refine zc_loopW (ι:=Nat) (fun k u=> [(0,.pointer (some ⟨b,0,none⟩)),(1,.int .i64 i)]) (fun k u=>(k=1∧u=w)∨(k=0∧SPost w t q (m::R) (g.shut f::fr) q.M N.length (.tuple #[]) (.returned (.tuple #[])) u)) (fun k u=>k) 1 (.inl ⟨rfl,rfl⟩) ⟨rfl,rfl,trivial⟩ ?_
 rintro k u (⟨rfl,rfl⟩|⟨rfl,hp⟩)
 ·have hb:=h.blk
  have hbt:=h.st.site.blk
  obtain ⟨A,c,hv,hc⟩:=h.st.site.row.rd.form
  rw [List.length_reverse] at hv hc
  simp only [List.length_cons] at hv hc
  rw [hv] at hbt
  refine zz ?_
  refine zCr rfl (sPop_calls h.st (by omega)) fun w3 hp=> ?_
  refine zN (zM ?_)
  exact zk_loopW 0 (.inr ⟨rfl,rfl,hp⟩) (by omega) ⟨rfl,rfl,trivial⟩
 ·obtain ⟨_,q1,N1,g1,g2,g3,g4⟩:=hp
  obtain ⟨i1,i2⟩:=h.stW g1 g2
  have hb:=i1.blk
  have hbt:=g1.site.blk
  obtain ⟨A,c,hv,hc⟩:=g1.site.row.rd.form
  rw [List.length_reverse] at hv hc
  simp only [List.length_cons] at hv hc
  rw [hv] at hbt
  refine zz ?_
  exact zk_ret0 (.inl rfl) rfl ⟨rfl,q1,N1,g1,g2,g3,g4⟩
end
section
variable {w w' w0 w1 w2 : World} {b t : Nat} {q q' q1 : SQ} {N N' : List ND} {n m k : Nat} {R R' : List Nat} {f g : FE} {fr fr' : List FE} {sk sk' : Bool} {x : Value} {e : Ending}
theorem stop_calls (h:IsB w b t q N (n::m::R) (f::g::fr) sk) (hf:fr.length≤900) (hs:f.nm∈B.wd (B.setW 3)) (i:Int) (hi:i=(fr.length+1:Nat)):
  Calls Tryz.prog 188 [.pointer (some ⟨b,0,none⟩),.int .i64 i].toArray w fun e w'=>e= .returned (.bool true)∧Chg w w' No:=by
 have hlen:=h.st.len.1
 simp only [List.length_cons] at hlen
 have hb:=h.blk
 have hbt:=h.st.site.blk
 have hnN:n<N.length:=h.st.zf.lt n (by simp)
 have hd:hdOf (N.getD n n0)=elemH f.nm f.al:=h.st.zf.1
 have hx:nodeOf N (n:Nat)=N.getD n n0:=if_pos ⟨by omega,by omega⟩
 have k1:(nodeOf N (n:Nat)).kind=1:=by rw [hx];exact congrArg Hd.kind hd
 have k2:(nodeOf N (n:Nat)).space=1:=by rw [hx];exact congrArg Hd.space hd
 have k3:(nodeOf N (n:Nat)).name=bs f.nm:=by rw [hx];exact congrArg Hd.name hd
 obtain ⟨bb,o,c,hv,hc,hcc⟩:=RdS.some h.st.site.row.rd (by simp)
 have hcell:=hcc (fr.length+1) _ (intC_get _ (fr.length+1) (by rw [List.length_reverse];simp only [List.length_cons];omega))
 have htop:=rev_top n (m::R)
 rw [List.length_reverse] at hv hc htop
 simp only [List.length_cons] at hv hc htop
 rw [show R.length+1+1 - 1=fr.length+1 by omega] at htop
 rw [htop] at hcell
 rw [hv] at hbt
 obtain ⟨m4,hm4⟩: ∃m4,m4=(nodeOf N (n:Nat)).attrs.length:=⟨_,rfl⟩
 obtain ⟨tx,htx⟩: ∃tx,tx=(nodeOf N (n:Nat)).text:=⟨_,rfl⟩
 subst hi
 refine zCz 43 Tryz.func188 ?_
 refine zz ?_
 refine zc_draw [19] (fun w'=>Chg w w' No∧Blk w' b 64 [.pointer (some ⟨t,0,none⟩),.int .i64 0,.string ⟨#[]⟩,.bool sk]∧Blk w' t 74 [.pointer (some ⟨q.r.pd,0,none⟩),.pointer (some ⟨q.r.pm,0,none⟩),.slice (some ⟨bb,o,none⟩) (R.length+1+1) c,.bool false]) (.take 0 (.take 1 (.take 2 (.take 3 (.take 4 (.take 5 (.take 6 (.take 7 (.take 8 (.take 9 (.take 10 (.take 11 (.take 12 (.take 13 (.take 14 (.take 15 (.take 16 (.all2 17 (.all1 18 (.last 19)) 18 (.all1 17 (.last 19)))))))))))))))))))) (by rfl) (by kernel_rfl) (by kernel_rfl) (fun w1 hC1 _=>⟨?_,?_⟩)
 ·exact ⟨hC1,hb.no hC1,hbt.no hC1⟩
 refine zz ?_
 refine zRd rfl rfl (fun _ hS=>r_load1 rfl (cell_at (cell_no hS.1 hcell) (by omega))) ?_
 refine zs_two ?_ ?_
 ·refine zo_call rfl (want_L rfl) rfl (by decide) rfl (rNode_calls (h.no hC1).st.site.doc (n:Nat)) ?_
  rintro _ w2 ⟨va,rfl,hA2,hC2⟩
  have hC2:=hC1.no hC2
  refine ⟨_,rfl,⟨hC2,hb.no hC2,hbt.no hC2⟩,?_⟩
  rw [k1,k2,k3]
  obtain ⟨A4,c4,rfl,_⟩:=hA2.form
  rw [←hm4,←htx]
  refine zs_alloc rfl (want_L rfl) (by decide) (fun u4 b8 hN4=> ?_)
  have hb4:Blk u4 b8 80 [.int .i64 0,.int .i64 0,.string ⟨#[]⟩,.slice none 0 0,.string ⟨#[]⟩,.int .i64 0,.slice none 0 0]:=hN4.blk
  have hge:=hN4.ge hC2
  have hC4:=hC2.no hN4.chg
  refine ⟨⟨hC4,hb.no hC4,hbt.no hC4⟩,?_⟩
  refine zs_storeL rfl (want_L rfl) rfl rfl rfl (by assumption) (by first|exact Nat.le_refl _|simp [Value.cells]) (by simp [Value.cells,Value.oneCell']) (fun u5 hU5=> ?_)
  have hC5:Chg w u5 No:=hC4.upd hU5 hge
  have hb5:Blk u5 b8 80 [.int .i64 1,.int .i64 1,.string (bs f.nm),.slice A4 m4 c4,.string (bs tx),.int .i64 0,.slice none 0 0]:=hU5.blk
  refine zz ?_
  refine zCr rfl (B.has_calls 3 f.nm (by decide) (by decide)) fun u6 hC6=> ?_
  rw [decide_eq_true hs]
  refine zz ?_
  exact zk_ret1 (.inr rfl) rfl rfl ⟨rfl,hC5.no hC6⟩
 ·refine zo_alloc rfl (want_L rfl) (by decide) (fun u4 b8 hN4=> ?_)
  have hb4:Blk u4 b8 80 [.int .i64 0,.int .i64 0,.string ⟨#[]⟩,.slice none 0 0,.string ⟨#[]⟩,.int .i64 0,.slice none 0 0]:=hN4.blk
  have hge:=hN4.ge hC1
  have hC4:=hC1.no hN4.chg
  refine ⟨⟨hC4,hb.no hC4,hbt.no hC4⟩,?_⟩
  refine zs_call rfl (want_L rfl) rfl (by decide) rfl (rNode_calls (h.no hC4).st.site.doc (n:Nat)) ?_
  rintro _ w2 ⟨va,rfl,hA2,hC2⟩
  have hb4:=hb4.no hC2
  have hC2:=hC4.no hC2
  refine ⟨_,rfl,⟨hC2,hb.no hC2,hbt.no hC2⟩,?_⟩
  rw [k1,k2,k3]
  obtain ⟨A4,c4,rfl,_⟩:=hA2.form
  rw [←hm4,←htx]
  refine zs_storeL rfl (want_L rfl) rfl rfl rfl (by assumption) (by first|exact Nat.le_refl _|simp [Value.cells]) (by simp [Value.cells,Value.oneCell']) (fun u5 hU5=> ?_)
  have hC5:Chg w u5 No:=hC2.upd hU5 hge
  have hb5:Blk u5 b8 80 [.int .i64 1,.int .i64 1,.string (bs f.nm),.slice A4 m4 c4,.string (bs tx),.int .i64 0,.slice none 0 0]:=hU5.blk
  refine zz ?_
  refine zCr rfl (B.has_calls 3 f.nm (by decide) (by decide)) fun u6 hC6=> ?_
  rw [decide_eq_true hs]
  refine zz ?_
  exact zk_ret1 (.inr rfl) rfl rfl ⟨rfl,hC5.no hC6⟩
theorem any_calls (h:IsB w b t q N (n::m::R) (f::g::fr) sk) (hM:MOk q.M (n::m::R) (f::g::fr)) (hf:fr.length≤900) (h1:f.nm∉fmtN) (h2:f.nm∉cellN):
  Calls Tryz.prog 163 [.pointer (some ⟨b,0,none⟩),.string (bs f.nm)].toArray w (BPost w b t q (g.shut f::fr) sk N.length (.tuple #[])):=by
 have hlen:=h.st.len.1
 simp only [List.length_cons] at hlen
 have hb:=h.blk
 have hbt:=h.st.site.blk
 have hnN:n<N.length:=h.st.zf.lt n (by simp)
 have hpos:0<n:=by have:=h.st.zf.pos 0 (by simp);simpa using this
 have hd:hdOf (N.getD n n0)=elemH f.nm f.al:=h.st.zf.1
 obtain ⟨bb,o,c,hv,hc,hcc⟩:=RdS.some h.st.site.row.rd (by simp)
 have hcell:=hcc (fr.length+1) _ (intC_get _ (fr.length+1) (by rw [List.length_reverse];simp only [List.length_cons];omega))
 have htop:=rev_top n (m::R)
 rw [List.length_reverse] at hv hc htop
 simp only [List.length_cons] at hv hc htop
 rw [show R.length+1+1 - 1=fr.length+1 by omega] at htop
 rw [htop] at hcell
 rw [hv] at hbt
 refine zCz 41 Tryz.func163 ?_
 refine zz ?_
 refine zc_loopW (ι:=Nat) (fun k u=> [(0,.pointer (some ⟨b,0,none⟩)),(1,.string (bs f.nm)),(4,.int .i64 ((fr.length+1:Nat):Int))]) (fun k u=>u=w) (fun k u=>0) 0 rfl ⟨rfl,rfl,get_int rfl (by omega),trivial⟩ ?_
 rintro k u hu
 obtain rfl:=hu.symm
 refine zz ?_
 refine zc_draw [] (fun w'=>Chg w w' No∧Blk w' b 64 [.pointer (some ⟨t,0,none⟩),.int .i64 0,.string ⟨#[]⟩,.bool sk]∧Blk w' t 74 [.pointer (some ⟨q.r.pd,0,none⟩),.pointer (some ⟨q.r.pm,0,none⟩),.slice (some ⟨bb,o,none⟩) (R.length+1+1) c,.bool false]) (.take 0 (.take 1 (.take 2 (.take 3 (.take 4 (.take 5 (.take 6 (.take 7 (.take 8 (.take 9 (.take 10 (.take 11 (.take 12 (.take 13 (.take 14 (.all1 15 (.all1 16 (.fin)))))))))))))))))) (by rfl) (by kernel_rfl) (by kernel_rfl) (fun w1 hC1 _=>⟨?_,?_⟩)
 ·exact ⟨hC1,hb.no hC1,hbt.no hC1⟩
 refine zz ?_
 refine zRd rfl rfl (fun _ hS=>r_load1 rfl (cell_at (cell_no hS.1 hcell) (by omega))) ?_
 refine ztP rfl rfl ?_
 refine zs_bs1 rfl (want_L rfl) (by decide) rfl (by rfl) (by rfl) (by decide) (by decide) (fun w3 cb hM3=> ?_)
 have hC3:=hC1.no hM3.chg
 have hr:RdS w3 9 1 (.slice (some ⟨cb,0,none⟩) 1 1) 1 (T.cellsS [f.nm]):=RdS.new hM3 rfl (T.cellsS_one _)
 refine ⟨⟨hC3,hb.no hC3,hbt.no hC3⟩,?_⟩
 refine zs_call rfl (want_L rfl) rfl (by decide) rfl (rsIs2_calls (h.no hC3).st.site (l:= [f.nm]) hr (by simp) n hnN f.nm f.al hd) ?_
 rintro _ w4 ⟨rfl,hC4⟩
 have hC4:=hC3.no hC4
 refine ⟨_,rfl,⟨hC4,hb.no hC4,hbt.no hC4⟩,?_⟩
 rw [decide_eq_true (⟨by omega,by simp⟩:n≠0∧f.nm∈ [f.nm])]
 refine zz ?_
 refine zCl rfl (cut_calls (h.no hC4) hf _ (by omega)) ?_
 rintro _ w5 hp
 obtain rfl:=hp.1
 refine ⟨_,rfl,?_⟩
 have hbp:=BPost.pre hC4 (hp.toB (h.no hC4) ((hM.skip (mk1_none h1 h2)).rename rfl))
 refine zz ?_
 exact zk_ret0 (.inr rfl) rfl hbp
theorem anchor_calls (h:IsB w b t q N (n::R) (f::fr) sk) (hM:MOk q.M (n::R) (f::fr)) (hf:fr.length≤900) (hl:N.length≤1900000) (al:List T.At) {va:Value} (ha:AttrS w va (encT al)) (hal:al.length≤1000000) (hup: [97]∉upN (f::fr)):
  Calls Tryz.prog 180 [.pointer (some ⟨b,0,none⟩),T.tokV 1 [97] va []].toArray w (BPost w b t q (⟨[97],al,.nil⟩::f::fr) sk (N.length+1) (.tuple #[])):=by
 have hMl:=hM.len
 simp only [List.length_cons] at hMl
 obtain ⟨A0,c0,rfl,_⟩:=ha.form
 have hfind:findM q.M [97] (wallK q.M q.M.length) q.M.length= -1:=findM_none _ fun j h1 h2 he=>by
  have hu:=hM.up j h1 h2
  rw [he] at hu
  exact hup hu
 unfold T.tokV
 refine zCz 67 Tryz.func180 ?_
 refine zS (zR ?_)
 refine zBx rfl (fun w1 b3 hN1=> ?_)
 have hb3:Blk w1 b3 66 [.int .i64 1,.string (bs [97]),.slice A0 (encT al).length c0,.bool false,.string (bs [])]:=hN1.blk
 have h1:=h.no hN1.chg
 have hb:=h1.blk
 have hbt:=h1.st.site.blk
 refine zz ?_
 refine zCp rfl (mkFind_calls h1.st.mar (by omega) [97]) ?_
 rw [hfind]
 refine zz ?_
 refine zCr rfl (rebuild_calls h1.st (by omega) hM) fun w2 hC2=> ?_
 have hb32:=hb3.no hC2
 refine zz ?_
 refine zCl rfl (format_calls (h1.no hC2) hM hf hl [97] al ((ha.no hN1.chg).no hC2) hal (by decide) hup) ?_
 rintro _ w3 hp
 obtain rfl:=hp.1
 refine ⟨_,rfl,?_⟩
 refine zN ?_
 exact zk_ret0 (.inl rfl) rfl (BPost.pre (hN1.chg.no hC2) hp)
theorem item_calls (h:IsB w b t q N (n::m::R) (f::g::fr) sk) (hM:MOk q.M (n::m::R) (f::g::fr)) (hf:fr.length≤800) (hl:N.length≤1900000) (hs:f.nm= [111,108]∨f.nm= [117,108]) (hp: ∀g'∈f::g::fr,g'.nm≠ [112]) (al:List T.At) {va:Value} (ha:AttrS w va (encT al)) (hal:al.length≤1000000) {v:Value} (hr:RdS w 9 1 v 1 (T.cellsS [[108,105]])):
  Calls Tryz.prog 179 [.pointer (some ⟨b,0,none⟩),T.tokV 1 [108,105] va [],v].toArray w (BPost w b t q (⟨[108,105],al,.nil⟩::f::g::fr) sk (N.length+1) (.tuple #[])):=by
 have hlen:=h.st.len.1
 simp only [List.length_cons] at hlen
 have hnN:n<N.length:=h.st.zf.lt n (by simp)
 have hpos:0<n:=by have:=h.st.zf.pos 0 (by simp);simpa using this
 have hd:hdOf (N.getD n n0)=elemH f.nm f.al:=h.st.zf.1
 have hspec:f.nm∈B.wd (B.setW 3):=by rcases hs with h|h<;>rw [h]<;>decide+kernel
 have hli:f.nm∉ [[108,105]]:=by rcases hs with h|h<;>rw [h]<;>decide
 have hdv:f.nm∉([[97,100,100,114,101,115,115],[100,105,118],[112]]:List (List UInt8)):=by rcases hs with h|h<;>rw [h]<;>decide
 obtain ⟨A0,c0,rfl,_⟩:=ha.form
 obtain ⟨A1,c1,rfl,_⟩:=hr.form
 obtain ⟨bb,o,c,hv,hc,hcc⟩:=RdS.some h.st.site.row.rd (by simp)
 have hcell:=hcc (fr.length+1) _ (intC_get _ (fr.length+1) (by rw [List.length_reverse];simp only [List.length_cons];omega))
 have htop:=rev_top n (m::R)
 rw [List.length_reverse] at hv hc htop
 simp only [List.length_cons] at hv hc htop
 rw [show R.length+1+1 - 1=fr.length+1 by omega] at htop
 rw [htop] at hcell
 unfold T.tokV
 refine zCz 80 Tryz.func179 ?_
 refine zS (zR ?_)
 refine zBx rfl (fun w1 b3 hN1=> ?_)
 have hb3:Blk w1 b3 66 [.int .i64 1,.string (bs [108,105]),.slice A0 (encT al).length c0,.bool false,.string (bs [])]:=hN1.blk
 have h1:=h.no hN1.chg
 have hb:=h1.blk
 have hbt:=h1.st.site.blk
 rw [hv] at hbt
 have hcell1:=cell_no hN1.chg hcell
 refine zz ?_
 refine zc_loopW (ι:=Nat) (fun k u=> [(0,.pointer (some ⟨b,0,none⟩)),(2,.slice A1 1 c1),(4,.pointer (some ⟨b3,0,none⟩)),(6,.int .i64 ((fr.length+1:Nat):Int))]) (fun k u=>u=w1) (fun k u=>0) 0 rfl ⟨rfl,rfl,rfl,get_int rfl (by omega),trivial⟩ ?_
 rintro k u hu
 obtain rfl:=hu.symm
 refine zz ?_
 refine zL1 rfl (cell_at hcell1 (by omega)) (zz ?_)
 refine zCr rfl (rsIs2_calls h1.st.site (l:= [[108,105]]) (hr.no hN1.chg) (by decide) n hnN f.nm f.al hd) fun w2 hC2=> ?_
 rw [decide_eq_false (fun hh:n≠0∧f.nm∈ [[108,105]]=>hli hh.2)]
 have hb2:=hb.no hC2
 refine zz ?_
 refine zCl rfl (stop_calls (h1.no hC2) (by omega) hspec _ (by omega)) ?_
 rintro _ w3 ⟨rfl,hC3⟩
 have hC3:=hC2.no hC3
 refine ⟨_,rfl,?_⟩
 have hb33:=hb.no hC3
 refine zz ?_
 refine z_bsE (T.cellsS [[97,100,100,114,101,115,115],[100,105,118],[112]]) (want_L rfl) (by decide) rfl (by decide) (by decide) (by kernel_rfl) (fun w4 cb hM4=> ?_)
 have hC4:=hC3.no hM4.chg
 have hr4:RdS w4 9 1 (.slice (some ⟨cb,0,none⟩) 3 3) 3 (T.cellsS [[97,100,100,114,101,115,115],[100,105,118],[112]]):=RdS.new hM4 rfl (T.cellsS_one _)
 refine zCl rfl (rsIs2_calls (h1.no hC4).st.site (l:= [[97,100,100,114,101,115,115],[100,105,118],[112]]) hr4 (by decide) n hnN f.nm f.al hd) ?_
 rintro _ w5 ⟨rfl,hC5⟩
 have hC5:=hC4.no hC5
 refine ⟨_,rfl,?_⟩
 rw [decide_eq_false (fun hh:n≠0∧f.nm∈([[97,100,100,114,101,115,115],[100,105,118],[112]]:List (List UInt8))=>hdv hh.2)]
 refine zz ?_
 refine zCl rfl (closeP_calls (h1.no hC5) (by simp only [List.length_cons];omega) hp) ?_
 rintro _ w6 ⟨rfl,hC6⟩
 have hC6:=hC5.no hC6
 refine ⟨_,rfl,?_⟩
 have hb36:=hb3.no hC6
 refine zz ?_
 refine zCl rfl (enter_calls (h1.no hC6) (by simp only [List.length_cons];omega) hl [108,105] al ((ha.no hN1.chg).no hC6) hal) ?_
 rintro _ w7 hpp
 obtain rfl:=hpp.1
 refine ⟨_,rfl,?_⟩
 refine zN ?_
 exact zk_ret0 (.inl rfl) rfl (BPost.pre (hN1.chg.no hC6) (hpp.toB (h1.no hC6) (hM.open_ (show ([108,105]:List UInt8)∉fmtN by decide) (show ([108,105]:List UInt8)∉cellN by decide))))
end
end Go.Proofs.YtbcmiijollpgeaaGreat.D
namespace Go.Z
open Go
theorem zo_skipL {P:Program} {n:Nat} {e:Env} {w:World} {Q:Exit→Act→World→Prop} {l:List Oper} {ks:List Nat} {S:World→Prop} {i:Nat} {o:Oper} {d:Tmp} {r:Ord} (hi:nth l i=some o) (hs:skipL n l e o=some d) (h:ZS P n l.toArray ks S r ((d,undef)::e) w Q):ZO P n l.toArray ks S i r e w Q:=fun hS0 a ha=>by
 obtain ⟨hd,hdn,hy⟩:=stepP_yields (P:=P) (skipL_step hs)
 exact (hy a ha).wpOp (by rw [←nth_get];exact hi) ⟨hS0,_,by rw [hd];exact ha.put d undef hdn,h⟩
end Go.Z
namespace Go.Proofs.YtbcmiijollpgeaaGreat.D
open Go Go.Z Go.Proofs
def W1:List UInt8:= [98,111,100,121,32,99,97,112,116,105,111,110,32,99,111,108,32,99,111,108,103,114,111,117,112,32,102,114,97,109,101,32,102,114,97,109,101,115,101,116,32,104,101,97,100,32,104,116,109,108,32,116,98,111,100,121,32,116,100,32,116,102,111,111,116,32,116,104,32,116,104,101,97,100,32,116,114]
def W2:List UInt8:= [98,97,115,101,32,98,97,115,101,102,111,110,116,32,98,103,115,111,117,110,100,32,108,105,110,107,32,109,101,116,97,32,112,97,114,97,109,32,115,111,117,114,99,101,32,116,114,97,99,107]
def W3:List UInt8:= [97,114,101,97,32,98,114,32,101,109,98,101,100,32,105,109,103,32,105,109,97,103,101,32,105,110,112,117,116,32,107,101,121,103,101,110,32,119,98,114]
def W4:List UInt8:= [97,112,112,108,101,116,32,109,97,114,113,117,101,101,32,111,98,106,101,99,116]
def W5:List UInt8:= [116,97,98,108,101,32,108,105,115,116,105,110,103,32,112,114,101]
def W6:List UInt8:= [108,105,115,116,105,110,103,32,112,114,101]
def W7:List UInt8:= [100,100,32,100,116]
def W8:List UInt8:= [109,97,116,104,32,115,118,103]
def W9:List UInt8:= [114,98,32,114,112,32,114,116,32,114,116,99]
def WA:List UInt8:= [111,112,116,103,114,111,117,112,32,111,112,116,105,111,110]
section
variable {w w' w0 w1 w2 : World} {b t : Nat} {q q' q1 : SQ} {N N' : List ND} {n m k : Nat} {R R' : List Nat} {f g : FE} {fr fr' : List FE} {sk sk' : Bool} {x : Value} {e : Ending}
theorem IsS.other (h:IsS w t q N R fr) {cs:List Value} (hb:Blk w b 64 cs) (hC:Chg w w' (· =b)):IsS w' t q N R fr:=by
 refine ⟨h.site.chg hC (fun k hk he=> ?_) (fun k cells hk he=>absurd (hk.inj (he▸hb)).1 (by decide)),⟨h.mar.blk.chg hC (fun he=>absurd (h.mar.blk.inj (he▸hb)).1 (by decide)),h.mar.row.chg hC (fun k hk he=>h.mar.row.ne hk hb (by decide) he)⟩,h.wf,h.zf,h.big⟩
 exact h.site.noT (ty:=64) (cs:=cs) (he▸hb) (by decide) (by decide) (by decide) (by decide) (by decide) hk
theorem IsB.skW (h:IsB w b t q N R fr sk) (hU:Upd w w' b 64 [.pointer (some ⟨t,0,none⟩),.int .i64 0,.string ⟨#[]⟩,.bool sk']):IsB w' b t q N R fr sk'∧WrB w w' b t q q:=
 ⟨⟨hU.blk,h.st.other h.blk hU.chg⟩,⟨hU.chg.mono (fun k _ hk=> .inl hk),fun k hk=> .inl hk⟩⟩
def stN:List (List UInt8):= [[116,101,120,116,97,114,101,97],[116,105,116,108,101],[105,102,114,97,109,101],[110,111,101,109,98,101,100],[110,111,102,114,97,109,101,115],[115,99,114,105,112,116],[115,116,121,108,101],[120,109,112],[112,108,97,105,110,116,101,120,116]]
theorem state_calls (nm:List UInt8) (hn:nm∉stN):Calls Tryz.prog 158 [.string (bs nm)].toArray w fun e w'=>e= .returned (.int .i64 0)∧w'=w:=by
 have hne: ∀s∈stN,nm≠s:=fun s hs he=>hn (he▸hs)
 refine zCz 16 Tryz.func158 ?_
 refine zz ?_
 refine zEq rfl rfl (fun hq=>absurd hq (hne _ (by decide))) (fun _=> ?_)
 refine zz ?_
 refine zEq rfl rfl (fun hq=>absurd hq (hne _ (by decide))) (fun _=> ?_)
 refine zz ?_
 refine zEq rfl rfl (fun hq=>absurd hq (hne _ (by decide))) (fun _=> ?_)
 refine zz ?_
 refine zEq rfl rfl (fun hq=>absurd hq (hne _ (by decide))) (fun _=> ?_)
 refine zz ?_
 refine zEq rfl rfl (fun hq=>absurd hq (hne _ (by decide))) (fun _=> ?_)
 refine zz ?_
 refine zEq rfl rfl (fun hq=>absurd hq (hne _ (by decide))) (fun _=> ?_)
 refine zz ?_
 refine zEq rfl rfl (fun hq=>absurd hq (hne _ (by decide))) (fun _=> ?_)
 refine zz ?_
 refine zEq rfl rfl (fun hq=>absurd hq (hne _ (by decide))) (fun _=> ?_)
 refine zz ?_
 refine zEq rfl rfl (fun hq=>absurd hq (hne _ (by decide))) (fun _=> ?_)
 refine zz ?_
 exact zk_ret1 (.inr rfl) rfl rfl ⟨rfl,rfl⟩
theorem more_li (h:IsB w b t q N (n::m::R) (f::g::fr) sk) (hM:MOk q.M (n::m::R) (f::g::fr)) (hf:fr.length≤700) (hl:N.length≤1900000) (nm:List UInt8) (hn:nm∈([[108,105]]:List (List UInt8))) (al:List T.At) {va:Value} (ha:AttrS w va (encT al)) (hal:al.length≤1000000) (hs:f.nm= [111,108]∨f.nm= [117,108]) (hp: ∀g'∈f::g::fr,g'.nm≠ [112]):
  Calls Tryz.prog 160 [.pointer (some ⟨b,0,none⟩),T.tokV 1 nm va []].toArray w (BPost w b t q (⟨nm,al,.nil⟩::f::g::fr) sk (N.length+1) (.tuple #[])):=by
 obtain ⟨A0,c0,rfl,_⟩:=ha.form
 unfold T.tokV
 refine zCz 171 Tryz.func160 ?_
 refine zS (zR ?_)
 refine zBx rfl (fun w1 b3 hN1=> ?_)
 have hb30:Blk w1 b3 66 [.int .i64 1,.string (bs nm),.slice A0 (encT al).length c0,.bool false,.string (bs [])]:=hN1.blk
 have h1:=h.no hN1.chg
 have ha1:=ha.no hN1.chg
 have hb0:=h1.blk
 have hb:=hb0
 have hb3:=hb30
 have C:Chg w1 w1 No:=Chg.refl _ _
 obtain rfl:=List.mem_singleton.1 hn
 refine zz ?_
 refine zEq rfl rfl (fun _=> ?_) (fun hq=>absurd rfl hq)
 refine zz ?_
 refine zB1 rfl (fun w2 cb hM2=> ?_)
 have hr:RdS w2 9 1 (.slice (some ⟨cb,0,none⟩) 1 1) 1 (T.cellsS [[108,105]]):=RdS.new hM2 rfl (T.cellsS_one _)
 have C:=C.no hM2.chg
 refine zCl rfl (item_calls (h1.no C) hM (by omega) hl hs hp al (ha1.no C) hal hr) ?_
 rintro _ wz hp_
 obtain rfl:=hp_.1
 refine ⟨_,rfl,?_⟩
 refine zN (zM ?_)
 exact zk_ret0 (.inl rfl) rfl (BPost.pre (hN1.chg.no C) hp_)
theorem more_a (h:IsB w b t q N (n::R) (f::fr) sk) (hM:MOk q.M (n::R) (f::fr)) (hf:fr.length≤700) (hl:N.length≤1900000) (nm:List UInt8) (hn:nm∈([[97]]:List (List UInt8))) (al:List T.At) {va:Value} (ha:AttrS w va (encT al)) (hal:al.length≤1000000) (hup: [97]∉upN (f::fr)):
  Calls Tryz.prog 160 [.pointer (some ⟨b,0,none⟩),T.tokV 1 nm va []].toArray w (BPost w b t q (⟨nm,al,.nil⟩::f::fr) sk (N.length+1) (.tuple #[])):=by
 obtain ⟨A0,c0,rfl,_⟩:=ha.form
 unfold T.tokV
 refine zCz 171 Tryz.func160 ?_
 refine zS (zR ?_)
 refine zBx rfl (fun w1 b3 hN1=> ?_)
 have hb30:Blk w1 b3 66 [.int .i64 1,.string (bs nm),.slice A0 (encT al).length c0,.bool false,.string (bs [])]:=hN1.blk
 have h1:=h.no hN1.chg
 have ha1:=ha.no hN1.chg
 have hb0:=h1.blk
 have hb:=hb0
 have hb3:=hb30
 have C:Chg w1 w1 No:=Chg.refl _ _
 obtain rfl:=List.mem_singleton.1 hn
 refine zz ?_
 refine zEq rfl rfl (fun hq=>absurd hq (by decide)) (fun _=> ?_)
 refine zz ?_
 refine zCr rfl (B.in_calls [97] W7 (by decide)) fun w2 hC=> ?_
 rw [decide_eq_false (show [97]∉B.wd W7 by decide+kernel)]
 have C:=C.no hC
 have hb:=hb0.no C
 have hb3:=hb30.no C
 refine zz ?_
 refine zEq rfl rfl (fun _=> ?_) (fun hq=>absurd rfl hq)
 refine zz ?_
 refine zCl rfl (anchor_calls (h1.no C) hM (by omega) hl al (ha1.no C) hal hup) ?_
 rintro _ wz hp
 obtain rfl:=hp.1
 refine ⟨_,rfl,?_⟩
 refine zN (zM ?_)
 exact zk_ret0 (.inl rfl) rfl (BPost.pre (hN1.chg.no C) hp)
theorem more_fmt (h:IsB w b t q N (n::R) (f::fr) sk) (hM:MOk q.M (n::R) (f::fr)) (hf:fr.length≤700) (hl:N.length≤1900000) (nm:List UInt8) (hn:nm∈([[99,111,100,101],[101,109],[115,116,114,111,110,103]]:List (List UInt8))) (al:List T.At) {va:Value} (ha:AttrS w va (encT al)) (hal:al.length≤1000000) (hup:nm∉upN (f::fr)):
  Calls Tryz.prog 160 [.pointer (some ⟨b,0,none⟩),T.tokV 1 nm va []].toArray w (BPost w b t q (⟨nm,al,.nil⟩::f::fr) sk (N.length+1) (.tuple #[])):=by
 obtain ⟨A0,c0,rfl,_⟩:=ha.form
 unfold T.tokV
 refine zCz 171 Tryz.func160 ?_
 refine zS (zR ?_)
 refine zBx rfl (fun w1 b3 hN1=> ?_)
 have hb30:Blk w1 b3 66 [.int .i64 1,.string (bs nm),.slice A0 (encT al).length c0,.bool false,.string (bs [])]:=hN1.blk
 have h1:=h.no hN1.chg
 have ha1:=ha.no hN1.chg
 have hb0:=h1.blk
 have hb:=hb0
 have hb3:=hb30
 have C:Chg w1 w1 No:=Chg.refl _ _
 refine zz ?_
 refine zEq rfl rfl (fun hq=>absurd hq ((show∀a∈([[99,111,100,101],[101,109],[115,116,114,111,110,103]]:List (List UInt8)),a≠ [108,105] by decide+kernel) nm hn)) (fun _=> ?_)
 refine zz ?_
 refine zCr rfl (B.in_calls nm W7 (by decide)) fun w2 hC=> ?_
 rw [decide_eq_false ((show∀a∈([[99,111,100,101],[101,109],[115,116,114,111,110,103]]:List (List UInt8)),a∉B.wd W7 by decide+kernel) nm hn)]
 have C:=C.no hC
 have hb:=hb0.no C
 have hb3:=hb30.no C
 refine zz ?_
 refine zEq rfl rfl (fun hq=>absurd hq ((show∀a∈([[99,111,100,101],[101,109],[115,116,114,111,110,103]]:List (List UInt8)),a≠ [97] by decide+kernel) nm hn)) (fun _=> ?_)
 refine zz ?_
 refine zEq rfl rfl (fun hq=>absurd hq ((show∀a∈([[99,111,100,101],[101,109],[115,116,114,111,110,103]]:List (List UInt8)),a≠ [110,111,98,114] by decide+kernel) nm hn)) (fun _=> ?_)
 refine zz ?_
 refine zCr rfl (B.has_calls 2 nm (by decide) (by decide)) fun w3 hC=> ?_
 rw [decide_eq_true ((show∀a∈([[99,111,100,101],[101,109],[115,116,114,111,110,103]]:List (List UInt8)),a∈B.wd (B.setW 2) by decide+kernel) nm hn)]
 have C:=C.no hC
 have hb:=hb0.no C
 have hb3:=hb30.no C
 refine zz ?_
 refine zCr rfl (rebuild_calls (h1.no C).st (by omega) hM) fun w4 hC=> ?_
 have C:=C.no hC
 have hb:=hb0.no C
 have hb3:=hb30.no C
 refine zz ?_
 refine zCl rfl (format_calls (h1.no C) hM (by omega) hl nm al (ha1.no C) hal ((show∀a∈([[99,111,100,101],[101,109],[115,116,114,111,110,103]]:List (List UInt8)),a∈fmtN by decide+kernel) nm hn) hup) ?_
 rintro _ wz hp
 obtain rfl:=hp.1
 refine ⟨_,rfl,?_⟩
 refine zN (zM ?_)
 exact zk_ret0 (.inl rfl) rfl (BPost.pre (hN1.chg.no C) hp)
theorem more_sub (h:IsB w b t q N (n::R) (f::fr) sk) (hM:MOk q.M (n::R) (f::fr)) (hf:fr.length≤700) (hl:N.length≤1900000) (nm:List UInt8) (hn:nm∈([[115,117,98],[115,117,112]]:List (List UInt8))) (al:List T.At) {va:Value} (ha:AttrS w va (encT al)) (hal:al.length≤1000000):
  Calls Tryz.prog 160 [.pointer (some ⟨b,0,none⟩),T.tokV 1 nm va []].toArray w (BPost w b t q (⟨nm,al,.nil⟩::f::fr) sk (N.length+1) (.tuple #[])):=by
 obtain ⟨A0,c0,rfl,_⟩:=ha.form
 unfold T.tokV
 refine zCz 171 Tryz.func160 ?_
 refine zS (zR ?_)
 refine zBx rfl (fun w1 b3 hN1=> ?_)
 have hb30:Blk w1 b3 66 [.int .i64 1,.string (bs nm),.slice A0 (encT al).length c0,.bool false,.string (bs [])]:=hN1.blk
 have h1:=h.no hN1.chg
 have ha1:=ha.no hN1.chg
 have hb0:=h1.blk
 have hb:=hb0
 have hb3:=hb30
 have C:Chg w1 w1 No:=Chg.refl _ _
 refine zz ?_
 refine zEq rfl rfl (fun hq=>absurd hq ((show∀a∈([[115,117,98],[115,117,112]]:List (List UInt8)),a≠ [108,105] by decide+kernel) nm hn)) (fun _=> ?_)
 refine zz ?_
 refine zCr rfl (B.in_calls nm W7 (by decide)) fun w2 hC=> ?_
 rw [decide_eq_false ((show∀a∈([[115,117,98],[115,117,112]]:List (List UInt8)),a∉B.wd W7 by decide+kernel) nm hn)]
 have C:=C.no hC
 have hb:=hb0.no C
 have hb3:=hb30.no C
 refine zz ?_
 refine zEq rfl rfl (fun hq=>absurd hq ((show∀a∈([[115,117,98],[115,117,112]]:List (List UInt8)),a≠ [97] by decide+kernel) nm hn)) (fun _=> ?_)
 refine zz ?_
 refine zEq rfl rfl (fun hq=>absurd hq ((show∀a∈([[115,117,98],[115,117,112]]:List (List UInt8)),a≠ [110,111,98,114] by decide+kernel) nm hn)) (fun _=> ?_)
 refine zz ?_
 refine zCr rfl (B.has_calls 2 nm (by decide) (by decide)) fun w3 hC=> ?_
 rw [decide_eq_false ((show∀a∈([[115,117,98],[115,117,112]]:List (List UInt8)),a∉B.wd (B.setW 2) by decide+kernel) nm hn)]
 have C:=C.no hC
 have hb:=hb0.no C
 have hb3:=hb30.no C
 refine zz ?_
 refine zCr rfl (B.in_calls nm W8 (by decide)) fun w4 hC=> ?_
 rw [decide_eq_false ((show∀a∈([[115,117,98],[115,117,112]]:List (List UInt8)),a∉B.wd W8 by decide+kernel) nm hn)]
 have C:=C.no hC
 have hb:=hb0.no C
 have hb3:=hb30.no C
 refine zz ?_
 refine zCr rfl (B.in_calls nm W9 (by decide)) fun w5 hC=> ?_
 rw [decide_eq_false ((show∀a∈([[115,117,98],[115,117,112]]:List (List UInt8)),a∉B.wd W9 by decide+kernel) nm hn)]
 have C:=C.no hC
 have hb:=hb0.no C
 have hb3:=hb30.no C
 refine zz ?_
 refine zEq rfl rfl (fun hq=>absurd hq ((show∀a∈([[115,117,98],[115,117,112]]:List (List UInt8)),a≠ [98,117,116,116,111,110] by decide+kernel) nm hn)) (fun _=> ?_)
 refine zz ?_
 refine zc_draw [] (fun w'=>Blk w' b 64 [.pointer (some ⟨t,0,none⟩),.int .i64 0,.string ⟨#[]⟩,.bool sk]∧Blk w' b3 66 [.int .i64 1,.string (bs nm),.slice A0 (encT al).length c0,.bool false,.string (bs [])]) (.take 0 (.take 1 (.all1 2 (.take 3 (.take 4 (.take 5 (.take 6 (.take 7 (.take 8 (.take 9 (.take 10 (.take 11 (.all2 12 (.all1 13 (.all1 14 (.take 15 (.fin)))) 13 (.all1 12 (.all1 14 (.take 15 (.fin))))))))))))))))) (by rfl) (by kernel_rfl) (by kernel_rfl) (fun wd hC _=>⟨?_,?_⟩)
 ·exact ⟨hb.no hC,hb3.no hC⟩
 have C:=C.no hC
 have hb:=hb0.no C
 have hb3:=hb30.no C
 refine zz ?_
 refine zs_call rfl (want_L rfl) rfl (by decide) rfl (B.in_calls nm WA (by decide)) ?_
 rintro _ we ⟨rfl,hC⟩
 have C:=C.no hC
 have hb:=hb0.no C
 have hb3:=hb30.no C
 refine ⟨_,rfl,⟨hb,hb3⟩,?_⟩
 rw [decide_eq_false ((show∀a∈([[115,117,98],[115,117,112]]:List (List UInt8)),a∉B.wd WA by decide+kernel) nm hn)]
 refine zz ?_
 refine zs_two ?_ ?_
 ·refine zo_skipL rfl rfl ?_
  refine zz ?_
  refine zCr rfl (rebuild_calls (h1.no C).st (by omega) hM) fun w6 hC=> ?_
  have C:=C.no hC
  have hb:=hb0.no C
  have hb3:=hb30.no C
  refine zz ?_
  refine zCl rfl (enter_calls (h1.no C) (by omega) hl nm al (ha1.no C) hal) ?_
  rintro _ wz hpz
  obtain rfl:=hpz.1
  refine ⟨_,rfl,?_⟩
  refine zN (zM ?_)
  refine zk_ret0 (.inl rfl) rfl (BPost.pre (hN1.chg.no C) (hpz.toB (h1.no C) (hM.open_ ?_ ?_)))
  ·exact ((show∀a∈([[115,117,98],[115,117,112]]:List (List UInt8)),a∉fmtN by decide+kernel) nm hn)
  ·exact ((show∀a∈([[115,117,98],[115,117,112]]:List (List UInt8)),a∉cellN by decide+kernel) nm hn)
 ·refine zo_skipL rfl rfl ?_
  refine zz ?_
  refine zCr rfl (rebuild_calls (h1.no C).st (by omega) hM) fun w6 hC=> ?_
  have C:=C.no hC
  have hb:=hb0.no C
  have hb3:=hb30.no C
  refine zz ?_
  refine zCl rfl (enter_calls (h1.no C) (by omega) hl nm al (ha1.no C) hal) ?_
  rintro _ wz hpz
  obtain rfl:=hpz.1
  refine ⟨_,rfl,?_⟩
  refine zN (zM ?_)
  refine zk_ret0 (.inl rfl) rfl (BPost.pre (hN1.chg.no C) (hpz.toB (h1.no C) (hM.open_ ?_ ?_)))
  ·exact ((show∀a∈([[115,117,98],[115,117,112]]:List (List UInt8)),a∉fmtN by decide+kernel) nm hn)
  ·exact ((show∀a∈([[115,117,98],[115,117,112]]:List (List UInt8)),a∉cellN by decide+kernel) nm hn)
theorem opens_hr (h:IsB w b t q N (n::R) (f::fr) sk) (hM:MOk q.M (n::R) (f::fr)) (hf:fr.length≤700) (hl:N.length≤1900000) (nm:List UInt8) (hn:nm∈([[104,114]]:List (List UInt8))) (al:List T.At) {va:Value} (ha:AttrS w va (encT al)) (hal:al.length≤1000000) (hp: ∀g∈f::fr,g.nm≠ [112]):
  Calls Tryz.prog 132 [.pointer (some ⟨b,0,none⟩),T.tokV 1 nm va []].toArray w (BPost w b t q (f.shut ⟨nm,al,.nil⟩::fr) sk (N.length+1) (.tuple #[])):=by
 obtain ⟨A0,c0,rfl,_⟩:=ha.form
 unfold T.tokV
 refine zCz 131 Tryz.func132 ?_
 refine zS (zR ?_)
 refine zBx rfl (fun w1 b3 hN1=> ?_)
 have hb30:Blk w1 b3 66 [.int .i64 1,.string (bs nm),.slice A0 (encT al).length c0,.bool false,.string (bs [])]:=hN1.blk
 have h1:=h.no hN1.chg
 have ha1:=ha.no hN1.chg
 have hb0:=h1.blk
 have hb:=hb0
 have hb3:=hb30
 have C:Chg w1 w1 No:=Chg.refl _ _
 refine zz ?_
 refine zCr rfl (B.in_calls nm W1 (by decide)) fun w2 hC=> ?_
 rw [decide_eq_false ((show∀a∈([[104,114]]:List (List UInt8)),a∉B.wd W1 by decide+kernel) nm hn)]
 have C:=C.no hC
 have hb:=hb0.no C
 have hb3:=hb30.no C
 refine zz ?_
 refine zCr rfl (B.in_calls nm W2 (by decide)) fun w3 hC=> ?_
 rw [decide_eq_false ((show∀a∈([[104,114]]:List (List UInt8)),a∉B.wd W2 by decide+kernel) nm hn)]
 have C:=C.no hC
 have hb:=hb0.no C
 have hb3:=hb30.no C
 refine zz ?_
 refine zEq rfl rfl (fun _=> ?_) (fun hq=>absurd ((show∀a∈([[104,114]]:List (List UInt8)),a= [104,114] by decide+kernel) nm hn) hq)
 refine zz ?_
 refine zCr rfl (closeP_calls (h1.no C) (by omega) hp) fun w4 hC=> ?_
 have C:=C.no hC
 have hb:=hb0.no C
 have hb3:=hb30.no C
 refine zz ?_
 refine zCl rfl (leaf_calls (h1.no C) hM (by omega) hl nm al (ha1.no C) hal) ?_
 rintro _ wz hp2
 obtain rfl:=hp2.1
 refine ⟨_,rfl,?_⟩
 refine zN (zM ?_)
 exact zk_ret0 (.inl rfl) rfl (BPost.pre (hN1.chg.no C) hp2)
theorem opens_br (h:IsB w b t q N (n::R) (f::fr) sk) (hM:MOk q.M (n::R) (f::fr)) (hf:fr.length≤700) (hl:N.length≤1900000) (nm:List UInt8) (hn:nm∈([[98,114],[105,109,103]]:List (List UInt8))) (al:List T.At) {va:Value} (ha:AttrS w va (encT al)) (hal:al.length≤1000000):
  Calls Tryz.prog 132 [.pointer (some ⟨b,0,none⟩),T.tokV 1 nm va []].toArray w (BPost w b t q (f.shut ⟨nm,al,.nil⟩::fr) sk (N.length+1) (.tuple #[])):=by
 obtain ⟨A0,c0,rfl,_⟩:=ha.form
 unfold T.tokV
 refine zCz 131 Tryz.func132 ?_
 refine zS (zR ?_)
 refine zBx rfl (fun w1 b3 hN1=> ?_)
 have hb30:Blk w1 b3 66 [.int .i64 1,.string (bs nm),.slice A0 (encT al).length c0,.bool false,.string (bs [])]:=hN1.blk
 have h1:=h.no hN1.chg
 have ha1:=ha.no hN1.chg
 have hb0:=h1.blk
 have hb:=hb0
 have hb3:=hb30
 have C:Chg w1 w1 No:=Chg.refl _ _
 refine zz ?_
 refine zCr rfl (B.in_calls nm W1 (by decide)) fun w2 hC=> ?_
 rw [decide_eq_false ((show∀a∈([[98,114],[105,109,103]]:List (List UInt8)),a∉B.wd W1 by decide+kernel) nm hn)]
 have C:=C.no hC
 have hb:=hb0.no C
 have hb3:=hb30.no C
 refine zz ?_
 refine zCr rfl (B.in_calls nm W2 (by decide)) fun w3 hC=> ?_
 rw [decide_eq_false ((show∀a∈([[98,114],[105,109,103]]:List (List UInt8)),a∉B.wd W2 by decide+kernel) nm hn)]
 have C:=C.no hC
 have hb:=hb0.no C
 have hb3:=hb30.no C
 refine zz ?_
 refine zEq rfl rfl (fun hq=>absurd hq ((show∀a∈([[98,114],[105,109,103]]:List (List UInt8)),a≠ [104,114] by decide+kernel) nm hn)) (fun _=> ?_)
 refine zz ?_
 refine zCr rfl (B.in_calls nm W3 (by decide)) fun w4 hC=> ?_
 rw [decide_eq_true ((show∀a∈([[98,114],[105,109,103]]:List (List UInt8)),a∈B.wd W3 by decide+kernel) nm hn)]
 have C:=C.no hC
 have hb:=hb0.no C
 have hb3:=hb30.no C
 refine zz ?_
 refine zEq rfl rfl (fun hq=>absurd hq ((show∀a∈([[98,114],[105,109,103]]:List (List UInt8)),a≠ [105,109,97,103,101] by decide+kernel) nm hn)) (fun _=> ?_)
 refine zz ?_
 refine zCr rfl (rebuild_calls (h1.no C).st (by omega) hM) fun w5 hC=> ?_
 have C:=C.no hC
 have hb:=hb0.no C
 have hb3:=hb30.no C
 refine zz ?_
 refine zCl rfl (leaf_calls (h1.no C) hM (by omega) hl nm al (ha1.no C) hal) ?_
 rintro _ wz hp
 obtain rfl:=hp.1
 refine ⟨_,rfl,?_⟩
 refine zN (zM ?_)
 exact zk_ret0 (.inl rfl) rfl (BPost.pre (hN1.chg.no C) hp)
theorem opens_block (h:IsB w b t q N (n::R) (f::fr) sk) (hM:MOk q.M (n::R) (f::fr)) (hf:fr.length≤700) (hl:N.length≤1900000) (nm:List UInt8) (hn:nm∈([[112],[111,108],[117,108],[98,108,111,99,107,113,117,111,116,101]]:List (List UInt8))) (al:List T.At) {va:Value} (ha:AttrS w va (encT al)) (hal:al.length≤1000000) (hp: ∀g∈f::fr,g.nm≠ [112]):
  Calls Tryz.prog 132 [.pointer (some ⟨b,0,none⟩),T.tokV 1 nm va []].toArray w (BPost w b t q (⟨nm,al,.nil⟩::f::fr) false (N.length+1) (.tuple #[])):=by
 obtain ⟨A0,c0,rfl,_⟩:=ha.form
 unfold T.tokV
 refine zCz 131 Tryz.func132 ?_
 refine zS (zR ?_)
 refine zBx rfl (fun w1 b3 hN1=> ?_)
 have hb30:Blk w1 b3 66 [.int .i64 1,.string (bs nm),.slice A0 (encT al).length c0,.bool false,.string (bs [])]:=hN1.blk
 have h1:=h.no hN1.chg
 have ha1:=ha.no hN1.chg
 have hb0:=h1.blk
 have hb:=hb0
 have hb3:=hb30
 have C:Chg w1 w1 No:=Chg.refl _ _
 refine zz ?_
 refine zCr rfl (B.in_calls nm W1 (by decide)) fun w2 hC=> ?_
 rw [decide_eq_false ((show∀a∈([[112],[111,108],[117,108],[98,108,111,99,107,113,117,111,116,101]]:List (List UInt8)),a∉B.wd W1 by decide+kernel) nm hn)]
 have C:=C.no hC
 have hb:=hb0.no C
 have hb3:=hb30.no C
 refine zz ?_
 refine zCr rfl (B.in_calls nm W2 (by decide)) fun w3 hC=> ?_
 rw [decide_eq_false ((show∀a∈([[112],[111,108],[117,108],[98,108,111,99,107,113,117,111,116,101]]:List (List UInt8)),a∉B.wd W2 by decide+kernel) nm hn)]
 have C:=C.no hC
 have hb:=hb0.no C
 have hb3:=hb30.no C
 refine zz ?_
 refine zEq rfl rfl (fun hq=>absurd hq ((show∀a∈([[112],[111,108],[117,108],[98,108,111,99,107,113,117,111,116,101]]:List (List UInt8)),a≠ [104,114] by decide+kernel) nm hn)) (fun _=> ?_)
 refine zz ?_
 refine zCr rfl (B.in_calls nm W3 (by decide)) fun w4 hC=> ?_
 rw [decide_eq_false ((show∀a∈([[112],[111,108],[117,108],[98,108,111,99,107,113,117,111,116,101]]:List (List UInt8)),a∉B.wd W3 by decide+kernel) nm hn)]
 have C:=C.no hC
 have hb:=hb0.no C
 have hb3:=hb30.no C
 refine zz ?_
 refine zCp rfl (state_calls nm ((show∀a∈([[112],[111,108],[117,108],[98,108,111,99,107,113,117,111,116,101]]:List (List UInt8)),a∉stN by decide+kernel) nm hn)) ?_
 refine zz ?_
 refine zEq rfl rfl (fun hq=>absurd hq ((show∀a∈([[112],[111,108],[117,108],[98,108,111,99,107,113,117,111,116,101]]:List (List UInt8)),a≠ [116,101,109,112,108,97,116,101] by decide+kernel) nm hn)) (fun _=> ?_)
 refine zz ?_
 refine zCr rfl (B.in_calls nm W4 (by decide)) fun w5 hC=> ?_
 rw [decide_eq_false ((show∀a∈([[112],[111,108],[117,108],[98,108,111,99,107,113,117,111,116,101]]:List (List UInt8)),a∉B.wd W4 by decide+kernel) nm hn)]
 have C:=C.no hC
 have hb:=hb0.no C
 have hb3:=hb30.no C
 refine zz ?_
 refine zCr rfl (B.has_calls 6 nm (by decide) (by decide)) fun w6 hC=> ?_
 rw [decide_eq_true ((show∀a∈([[112],[111,108],[117,108],[98,108,111,99,107,113,117,111,116,101]]:List (List UInt8)),a∈B.wd (B.setW 6) by decide+kernel) nm hn)]
 have C:=C.no hC
 have hb:=hb0.no C
 have hb3:=hb30.no C
 refine zz ?_
 refine zCr rfl (closeP_calls (h1.no C) (by omega) hp) fun w7 hC=> ?_
 have C:=C.no hC
 have hb:=hb0.no C
 have hb3:=hb30.no C
 refine zz ?_
 refine zCl rfl (enter_calls (h1.no C) (by omega) hl nm al (ha1.no C) hal) ?_
 rintro _ wz hp2
 obtain rfl:=hp2.1
 refine ⟨_,rfl,?_⟩
 obtain ⟨_,qz,Nz,Rz,hBz,hMz,hWz,hnz⟩:=hp2.toB (h1.no C) (hM.open_ (f:=⟨nm,al,.nil⟩) ((show∀a∈([[112],[111,108],[117,108],[98,108,111,99,107,113,117,111,116,101]]:List (List UInt8)),a∉fmtN by decide+kernel) nm hn) ((show∀a∈([[112],[111,108],[117,108],[98,108,111,99,107,113,117,111,116,101]]:List (List UInt8)),a∉cellN by decide+kernel) nm hn))
 have hbz:=hBz.blk
 have hb3z:=(WrB.keep (h1.no C) hWz).2 _ _ _ hb3 (by decide)
 refine zz ?_
 refine zCr rfl (B.in_calls nm W6 (by decide)) fun wy hCy=> ?_
 rw [decide_eq_false ((show∀a∈([[112],[111,108],[117,108],[98,108,111,99,107,113,117,111,116,101]]:List (List UInt8)),a∉B.wd W6 by decide+kernel) nm hn)]
 have hBy:=hBz.no hCy
 have hby:=hBy.blk
 refine zP rfl (zfa rfl ?_)
 refine z_store (want_L rfl) rfl rfl rfl (by assumption) (by first|exact Nat.le_refl _|simp [Value.cells]) (by simp [Value.cells,Value.oneCell']) (fun wx hUx=> ?_)
 obtain ⟨hBx,hWx⟩:=hBy.skW hUx
 refine zN (zM ?_)
 exact zk_ret0 (.inl rfl) rfl ⟨rfl,qz,Nz,Rz,hBx,hMz,(WrB.of_no (hN1.chg.no C) _ _ _).trans (hWz.trans ((WrB.of_no hCy _ _ _).trans hWx)),hnz⟩
theorem opens_table (h:IsB w b t q N (n::R) (f::fr) sk) (hM:MOk q.M (n::R) (f::fr)) (hf:fr.length≤700) (hl:N.length≤1900000) (nm:List UInt8) (hn:nm∈([[116,97,98,108,101]]:List (List UInt8))) (al:List T.At) {va:Value} (ha:AttrS w va (encT al)) (hal:al.length≤1000000) (hp: ∀g∈f::fr,g.nm≠ [112]):
  Calls Tryz.prog 132 [.pointer (some ⟨b,0,none⟩),T.tokV 1 nm va []].toArray w (BPost w b t q (⟨nm,al,.nil⟩::f::fr) false (N.length+1) (.tuple #[])):=by
 obtain ⟨A0,c0,rfl,_⟩:=ha.form
 unfold T.tokV
 refine zCz 131 Tryz.func132 ?_
 refine zS (zR ?_)
 refine zBx rfl (fun w1 b3 hN1=> ?_)
 have hb30:Blk w1 b3 66 [.int .i64 1,.string (bs nm),.slice A0 (encT al).length c0,.bool false,.string (bs [])]:=hN1.blk
 have h1:=h.no hN1.chg
 have ha1:=ha.no hN1.chg
 have hb0:=h1.blk
 have hb:=hb0
 have hb3:=hb30
 have C:Chg w1 w1 No:=Chg.refl _ _
 refine zz ?_
 refine zCr rfl (B.in_calls nm W1 (by decide)) fun w2 hC=> ?_
 rw [decide_eq_false ((show∀a∈([[116,97,98,108,101]]:List (List UInt8)),a∉B.wd W1 by decide+kernel) nm hn)]
 have C:=C.no hC
 have hb:=hb0.no C
 have hb3:=hb30.no C
 refine zz ?_
 refine zCr rfl (B.in_calls nm W2 (by decide)) fun w3 hC=> ?_
 rw [decide_eq_false ((show∀a∈([[116,97,98,108,101]]:List (List UInt8)),a∉B.wd W2 by decide+kernel) nm hn)]
 have C:=C.no hC
 have hb:=hb0.no C
 have hb3:=hb30.no C
 refine zz ?_
 refine zEq rfl rfl (fun hq=>absurd hq ((show∀a∈([[116,97,98,108,101]]:List (List UInt8)),a≠ [104,114] by decide+kernel) nm hn)) (fun _=> ?_)
 refine zz ?_
 refine zCr rfl (B.in_calls nm W3 (by decide)) fun w4 hC=> ?_
 rw [decide_eq_false ((show∀a∈([[116,97,98,108,101]]:List (List UInt8)),a∉B.wd W3 by decide+kernel) nm hn)]
 have C:=C.no hC
 have hb:=hb0.no C
 have hb3:=hb30.no C
 refine zz ?_
 refine zCp rfl (state_calls nm ((show∀a∈([[116,97,98,108,101]]:List (List UInt8)),a∉stN by decide+kernel) nm hn)) ?_
 refine zz ?_
 refine zEq rfl rfl (fun hq=>absurd hq ((show∀a∈([[116,97,98,108,101]]:List (List UInt8)),a≠ [116,101,109,112,108,97,116,101] by decide+kernel) nm hn)) (fun _=> ?_)
 refine zz ?_
 refine zCr rfl (B.in_calls nm W4 (by decide)) fun w5 hC=> ?_
 rw [decide_eq_false ((show∀a∈([[116,97,98,108,101]]:List (List UInt8)),a∉B.wd W4 by decide+kernel) nm hn)]
 have C:=C.no hC
 have hb:=hb0.no C
 have hb3:=hb30.no C
 refine zz ?_
 refine zCr rfl (B.has_calls 6 nm (by decide) (by decide)) fun w6 hC=> ?_
 rw [decide_eq_false ((show∀a∈([[116,97,98,108,101]]:List (List UInt8)),a∉B.wd (B.setW 6) by decide+kernel) nm hn)]
 have C:=C.no hC
 have hb:=hb0.no C
 have hb3:=hb30.no C
 refine zz ?_
 refine zCr rfl (B.in_calls nm W5 (by decide)) fun w7 hC=> ?_
 rw [decide_eq_true ((show∀a∈([[116,97,98,108,101]]:List (List UInt8)),a∈B.wd W5 by decide+kernel) nm hn)]
 have C:=C.no hC
 have hb:=hb0.no C
 have hb3:=hb30.no C
 refine zz ?_
 refine zCr rfl (closeP_calls (h1.no C) (by omega) hp) fun w8 hC=> ?_
 have C:=C.no hC
 have hb:=hb0.no C
 have hb3:=hb30.no C
 refine zz ?_
 refine zCl rfl (enter_calls (h1.no C) (by omega) hl nm al (ha1.no C) hal) ?_
 rintro _ wz hp2
 obtain rfl:=hp2.1
 refine ⟨_,rfl,?_⟩
 obtain ⟨_,qz,Nz,Rz,hBz,hMz,hWz,hnz⟩:=hp2.toB (h1.no C) (hM.open_ (f:=⟨nm,al,.nil⟩) ((show∀a∈([[116,97,98,108,101]]:List (List UInt8)),a∉fmtN by decide+kernel) nm hn) ((show∀a∈([[116,97,98,108,101]]:List (List UInt8)),a∉cellN by decide+kernel) nm hn))
 have hbz:=hBz.blk
 have hb3z:=(WrB.keep (h1.no C) hWz).2 _ _ _ hb3 (by decide)
 refine zz ?_
 refine zCr rfl (B.in_calls nm W6 (by decide)) fun wy hCy=> ?_
 rw [decide_eq_false ((show∀a∈([[116,97,98,108,101]]:List (List UInt8)),a∉B.wd W6 by decide+kernel) nm hn)]
 have hBy:=hBz.no hCy
 have hby:=hBy.blk
 refine zP rfl (zfa rfl ?_)
 refine z_store (want_L rfl) rfl rfl rfl (by assumption) (by first|exact Nat.le_refl _|simp [Value.cells]) (by simp [Value.cells,Value.oneCell']) (fun wx hUx=> ?_)
 obtain ⟨hBx,hWx⟩:=hBy.skW hUx
 refine zN (zM ?_)
 exact zk_ret0 (.inl rfl) rfl ⟨rfl,qz,Nz,Rz,hBx,hMz,(WrB.of_no (hN1.chg.no C) _ _ _).trans (hWz.trans ((WrB.of_no hCy _ _ _).trans hWx)),hnz⟩
theorem opens_pre (h:IsB w b t q N (n::R) (f::fr) sk) (hM:MOk q.M (n::R) (f::fr)) (hf:fr.length≤700) (hl:N.length≤1900000) (nm:List UInt8) (hn:nm∈([[112,114,101]]:List (List UInt8))) (al:List T.At) {va:Value} (ha:AttrS w va (encT al)) (hal:al.length≤1000000) (hp: ∀g∈f::fr,g.nm≠ [112]):
  Calls Tryz.prog 132 [.pointer (some ⟨b,0,none⟩),T.tokV 1 nm va []].toArray w (BPost w b t q (⟨nm,al,.nil⟩::f::fr) true (N.length+1) (.tuple #[])):=by
 obtain ⟨A0,c0,rfl,_⟩:=ha.form
 unfold T.tokV
 refine zCz 131 Tryz.func132 ?_
 refine zS (zR ?_)
 refine zBx rfl (fun w1 b3 hN1=> ?_)
 have hb30:Blk w1 b3 66 [.int .i64 1,.string (bs nm),.slice A0 (encT al).length c0,.bool false,.string (bs [])]:=hN1.blk
 have h1:=h.no hN1.chg
 have ha1:=ha.no hN1.chg
 have hb0:=h1.blk
 have hb:=hb0
 have hb3:=hb30
 have C:Chg w1 w1 No:=Chg.refl _ _
 refine zz ?_
 refine zCr rfl (B.in_calls nm W1 (by decide)) fun w2 hC=> ?_
 rw [decide_eq_false ((show∀a∈([[112,114,101]]:List (List UInt8)),a∉B.wd W1 by decide+kernel) nm hn)]
 have C:=C.no hC
 have hb:=hb0.no C
 have hb3:=hb30.no C
 refine zz ?_
 refine zCr rfl (B.in_calls nm W2 (by decide)) fun w3 hC=> ?_
 rw [decide_eq_false ((show∀a∈([[112,114,101]]:List (List UInt8)),a∉B.wd W2 by decide+kernel) nm hn)]
 have C:=C.no hC
 have hb:=hb0.no C
 have hb3:=hb30.no C
 refine zz ?_
 refine zEq rfl rfl (fun hq=>absurd hq ((show∀a∈([[112,114,101]]:List (List UInt8)),a≠ [104,114] by decide+kernel) nm hn)) (fun _=> ?_)
 refine zz ?_
 refine zCr rfl (B.in_calls nm W3 (by decide)) fun w4 hC=> ?_
 rw [decide_eq_false ((show∀a∈([[112,114,101]]:List (List UInt8)),a∉B.wd W3 by decide+kernel) nm hn)]
 have C:=C.no hC
 have hb:=hb0.no C
 have hb3:=hb30.no C
 refine zz ?_
 refine zCp rfl (state_calls nm ((show∀a∈([[112,114,101]]:List (List UInt8)),a∉stN by decide+kernel) nm hn)) ?_
 refine zz ?_
 refine zEq rfl rfl (fun hq=>absurd hq ((show∀a∈([[112,114,101]]:List (List UInt8)),a≠ [116,101,109,112,108,97,116,101] by decide+kernel) nm hn)) (fun _=> ?_)
 refine zz ?_
 refine zCr rfl (B.in_calls nm W4 (by decide)) fun w5 hC=> ?_
 rw [decide_eq_false ((show∀a∈([[112,114,101]]:List (List UInt8)),a∉B.wd W4 by decide+kernel) nm hn)]
 have C:=C.no hC
 have hb:=hb0.no C
 have hb3:=hb30.no C
 refine zz ?_
 refine zCr rfl (B.has_calls 6 nm (by decide) (by decide)) fun w6 hC=> ?_
 rw [decide_eq_false ((show∀a∈([[112,114,101]]:List (List UInt8)),a∉B.wd (B.setW 6) by decide+kernel) nm hn)]
 have C:=C.no hC
 have hb:=hb0.no C
 have hb3:=hb30.no C
 refine zz ?_
 refine zCr rfl (B.in_calls nm W5 (by decide)) fun w7 hC=> ?_
 rw [decide_eq_true ((show∀a∈([[112,114,101]]:List (List UInt8)),a∈B.wd W5 by decide+kernel) nm hn)]
 have C:=C.no hC
 have hb:=hb0.no C
 have hb3:=hb30.no C
 refine zz ?_
 refine zCr rfl (closeP_calls (h1.no C) (by omega) hp) fun w8 hC=> ?_
 have C:=C.no hC
 have hb:=hb0.no C
 have hb3:=hb30.no C
 refine zz ?_
 refine zCl rfl (enter_calls (h1.no C) (by omega) hl nm al (ha1.no C) hal) ?_
 rintro _ wz hp2
 obtain rfl:=hp2.1
 refine ⟨_,rfl,?_⟩
 obtain ⟨_,qz,Nz,Rz,hBz,hMz,hWz,hnz⟩:=hp2.toB (h1.no C) (hM.open_ (f:=⟨nm,al,.nil⟩) ((show∀a∈([[112,114,101]]:List (List UInt8)),a∉fmtN by decide+kernel) nm hn) ((show∀a∈([[112,114,101]]:List (List UInt8)),a∉cellN by decide+kernel) nm hn))
 have hbz:=hBz.blk
 have hb3z:=(WrB.keep (h1.no C) hWz).2 _ _ _ hb3 (by decide)
 refine zz ?_
 refine zCr rfl (B.in_calls nm W6 (by decide)) fun wy hCy=> ?_
 rw [decide_eq_true ((show∀a∈([[112,114,101]]:List (List UInt8)),a∈B.wd W6 by decide+kernel) nm hn)]
 have hBy:=hBz.no hCy
 have hby:=hBy.blk
 refine zP rfl (zfa rfl ?_)
 refine z_store (want_L rfl) rfl rfl rfl (by assumption) (by first|exact Nat.le_refl _|simp [Value.cells]) (by simp [Value.cells,Value.oneCell']) (fun wx hUx=> ?_)
 obtain ⟨hBx,hWx⟩:=hBy.skW hUx
 refine zN (zM ?_)
 exact zk_ret0 (.inl rfl) rfl ⟨rfl,qz,Nz,Rz,hBx,hMz,(WrB.of_no (hN1.chg.no C) _ _ _).trans (hWz.trans ((WrB.of_no hCy _ _ _).trans hWx)),hnz⟩
theorem opens_head (h:IsB w b t q N (n::R) (f::fr) sk) (hM:MOk q.M (n::R) (f::fr)) (hf:fr.length≤700) (hl:N.length≤1900000) (nm:List UInt8) (hn:nm∈([[104,50],[104,51],[104,52],[104,53],[104,54]]:List (List UInt8))) (al:List T.At) {va:Value} (ha:AttrS w va (encT al)) (hal:al.length≤1000000) (hp: ∀g∈f::fr,g.nm≠ [112]) (hh:f.nm∉B.wd (B.setW 5)):
  Calls Tryz.prog 132 [.pointer (some ⟨b,0,none⟩),T.tokV 1 nm va []].toArray w (BPost w b t q (⟨nm,al,.nil⟩::f::fr) sk (N.length+1) (.tuple #[])):=by
 obtain ⟨A0,c0,rfl,_⟩:=ha.form
 unfold T.tokV
 refine zCz 131 Tryz.func132 ?_
 refine zS (zR ?_)
 refine zBx rfl (fun w1 b3 hN1=> ?_)
 have hb30:Blk w1 b3 66 [.int .i64 1,.string (bs nm),.slice A0 (encT al).length c0,.bool false,.string (bs [])]:=hN1.blk
 have h1:=h.no hN1.chg
 have ha1:=ha.no hN1.chg
 have hb0:=h1.blk
 have hb:=hb0
 have hb3:=hb30
 have C:Chg w1 w1 No:=Chg.refl _ _
 refine zz ?_
 refine zCr rfl (B.in_calls nm W1 (by decide)) fun w2 hC=> ?_
 rw [decide_eq_false ((show∀a∈([[104,50],[104,51],[104,52],[104,53],[104,54]]:List (List UInt8)),a∉B.wd W1 by decide+kernel) nm hn)]
 have C:=C.no hC
 have hb:=hb0.no C
 have hb3:=hb30.no C
 refine zz ?_
 refine zCr rfl (B.in_calls nm W2 (by decide)) fun w3 hC=> ?_
 rw [decide_eq_false ((show∀a∈([[104,50],[104,51],[104,52],[104,53],[104,54]]:List (List UInt8)),a∉B.wd W2 by decide+kernel) nm hn)]
 have C:=C.no hC
 have hb:=hb0.no C
 have hb3:=hb30.no C
 refine zz ?_
 refine zEq rfl rfl (fun hq=>absurd hq ((show∀a∈([[104,50],[104,51],[104,52],[104,53],[104,54]]:List (List UInt8)),a≠ [104,114] by decide+kernel) nm hn)) (fun _=> ?_)
 refine zz ?_
 refine zCr rfl (B.in_calls nm W3 (by decide)) fun w4 hC=> ?_
 rw [decide_eq_false ((show∀a∈([[104,50],[104,51],[104,52],[104,53],[104,54]]:List (List UInt8)),a∉B.wd W3 by decide+kernel) nm hn)]
 have C:=C.no hC
 have hb:=hb0.no C
 have hb3:=hb30.no C
 refine zz ?_
 refine zCp rfl (state_calls nm ((show∀a∈([[104,50],[104,51],[104,52],[104,53],[104,54]]:List (List UInt8)),a∉stN by decide+kernel) nm hn)) ?_
 refine zz ?_
 refine zEq rfl rfl (fun hq=>absurd hq ((show∀a∈([[104,50],[104,51],[104,52],[104,53],[104,54]]:List (List UInt8)),a≠ [116,101,109,112,108,97,116,101] by decide+kernel) nm hn)) (fun _=> ?_)
 refine zz ?_
 refine zCr rfl (B.in_calls nm W4 (by decide)) fun w5 hC=> ?_
 rw [decide_eq_false ((show∀a∈([[104,50],[104,51],[104,52],[104,53],[104,54]]:List (List UInt8)),a∉B.wd W4 by decide+kernel) nm hn)]
 have C:=C.no hC
 have hb:=hb0.no C
 have hb3:=hb30.no C
 refine zz ?_
 refine zCr rfl (B.has_calls 6 nm (by decide) (by decide)) fun w6 hC=> ?_
 rw [decide_eq_false ((show∀a∈([[104,50],[104,51],[104,52],[104,53],[104,54]]:List (List UInt8)),a∉B.wd (B.setW 6) by decide+kernel) nm hn)]
 have C:=C.no hC
 have hb:=hb0.no C
 have hb3:=hb30.no C
 refine zz ?_
 refine zCr rfl (B.in_calls nm W5 (by decide)) fun w7 hC=> ?_
 rw [decide_eq_false ((show∀a∈([[104,50],[104,51],[104,52],[104,53],[104,54]]:List (List UInt8)),a∉B.wd W5 by decide+kernel) nm hn)]
 have C:=C.no hC
 have hb:=hb0.no C
 have hb3:=hb30.no C
 refine zz ?_
 refine zCr rfl (B.has_calls 5 nm (by decide) (by decide)) fun w8 hC=> ?_
 rw [decide_eq_true ((show∀a∈([[104,50],[104,51],[104,52],[104,53],[104,54]]:List (List UInt8)),a∈B.wd (B.setW 5) by decide+kernel) nm hn)]
 have C:=C.no hC
 have hb:=hb0.no C
 have hb3:=hb30.no C
 refine zz ?_
 refine zCr rfl (closeP_calls (h1.no C) (by omega) hp) fun w9 hC=> ?_
 have C:=C.no hC
 have hb:=hb0.no C
 have hb3:=hb30.no C
 have hnN:n<N.length:=h.st.zf.lt n (by simp)
 have hd:hdOf (N.getD n n0)=elemH f.nm f.al:=h.st.zf.1
 refine zz ?_
 refine zc_draw [] (fun w'=>Blk w' b 64 [.pointer (some ⟨t,0,none⟩),.int .i64 0,.string ⟨#[]⟩,.bool sk]∧Blk w' b3 66 [.int .i64 1,.string (bs nm),.slice A0 (encT al).length c0,.bool false,.string (bs [])]) (.take 0 (.take 1 (.take 2 (.take 3 (.take 4 (.take 5 (.take 6 (.take 7 (.all1 8 (.all1 9 (.all1 10 (.fin)))))))))))) (by rfl) (by kernel_rfl) (by kernel_rfl) (fun wd hC _=>⟨?_,?_⟩)
 ·exact ⟨hb.no hC,hb3.no hC⟩
 have C:=C.no hC
 have hb:=hb0.no C
 have hb3:=hb30.no C
 refine zz ?_
 refine zs_call rfl (want_L rfl) rfl (by decide) rfl (sTop_calls (h1.no C).st (by simp only [List.length_cons];omega)) ?_
 rintro _ we ⟨rfl,hC⟩
 have C:=C.no hC
 have hb:=hb0.no C
 have hb3:=hb30.no C
 refine ⟨_,rfl,⟨hb,hb3⟩,?_⟩
 refine zs_call rfl (want_L rfl) rfl (by decide) rfl (B.set_calls 5 (by decide) (by decide)) ?_
 rintro _ wf ⟨⟨A5,c5,rfl,hO⟩,hC⟩
 have C:=C.no hC
 have hb:=hb0.no C
 have hb3:=hb30.no C
 refine ⟨_,rfl,⟨hb,hb3⟩,?_⟩
 refine zs_call rfl (want_L rfl) rfl (by decide) rfl (rsIs2_calls (h1.no C).st.site hO (by decide+kernel) n hnN f.nm f.al hd) ?_
 rintro _ wg ⟨rfl,hC⟩
 have C:=C.no hC
 have hb:=hb0.no C
 have hb3:=hb30.no C
 refine ⟨_,rfl,⟨hb,hb3⟩,?_⟩
 rw [decide_eq_false (fun hx:n≠0∧f.nm∈B.wd (B.setW 5)=>hh hx.2)]
 refine zz ?_
 refine zCl rfl (enter_calls (h1.no C) (by omega) hl nm al (ha1.no C) hal) ?_
 rintro _ wz hpz
 obtain rfl:=hpz.1
 refine ⟨_,rfl,?_⟩
 refine zN (zM ?_)
 refine zk_ret0 (.inl rfl) rfl (BPost.pre (hN1.chg.no C) (hpz.toB (h1.no C) (hM.open_ ?_ ?_)))
 ·exact ((show∀a∈([[104,50],[104,51],[104,52],[104,53],[104,54]]:List (List UInt8)),a∉fmtN by decide+kernel) nm hn)
 ·exact ((show∀a∈([[104,50],[104,51],[104,52],[104,53],[104,54]]:List (List UInt8)),a∉cellN by decide+kernel) nm hn)
theorem opens_li (h:IsB w b t q N (n::m::R) (f::g::fr) sk) (hM:MOk q.M (n::m::R) (f::g::fr)) (hf:fr.length≤700) (hl:N.length≤1900000) (nm:List UInt8) (hn:nm∈([[108,105]]:List (List UInt8))) (al:List T.At) {va:Value} (ha:AttrS w va (encT al)) (hal:al.length≤1000000) (hs:f.nm= [111,108]∨f.nm= [117,108]) (hp0: ∀g'∈f::g::fr,g'.nm≠ [112]):
  Calls Tryz.prog 132 [.pointer (some ⟨b,0,none⟩),T.tokV 1 nm va []].toArray w (BPost w b t q (⟨nm,al,.nil⟩::f::g::fr) sk (N.length+1) (.tuple #[])):=by
 obtain ⟨A0,c0,rfl,_⟩:=ha.form
 unfold T.tokV
 refine zCz 131 Tryz.func132 ?_
 refine zS (zR ?_)
 refine zBx rfl (fun w1 b3 hN1=> ?_)
 have hb30:Blk w1 b3 66 [.int .i64 1,.string (bs nm),.slice A0 (encT al).length c0,.bool false,.string (bs [])]:=hN1.blk
 have h1:=h.no hN1.chg
 have ha1:=ha.no hN1.chg
 have hb0:=h1.blk
 have hb:=hb0
 have hb3:=hb30
 have C:Chg w1 w1 No:=Chg.refl _ _
 refine zz ?_
 refine zCr rfl (B.in_calls nm W1 (by decide)) fun w2 hC=> ?_
 rw [decide_eq_false ((show∀a∈([[108,105]]:List (List UInt8)),a∉B.wd W1 by decide+kernel) nm hn)]
 have C:=C.no hC
 have hb:=hb0.no C
 have hb3:=hb30.no C
 refine zz ?_
 refine zCr rfl (B.in_calls nm W2 (by decide)) fun w3 hC=> ?_
 rw [decide_eq_false ((show∀a∈([[108,105]]:List (List UInt8)),a∉B.wd W2 by decide+kernel) nm hn)]
 have C:=C.no hC
 have hb:=hb0.no C
 have hb3:=hb30.no C
 refine zz ?_
 refine zEq rfl rfl (fun hq=>absurd hq ((show∀a∈([[108,105]]:List (List UInt8)),a≠ [104,114] by decide+kernel) nm hn)) (fun _=> ?_)
 refine zz ?_
 refine zCr rfl (B.in_calls nm W3 (by decide)) fun w4 hC=> ?_
 rw [decide_eq_false ((show∀a∈([[108,105]]:List (List UInt8)),a∉B.wd W3 by decide+kernel) nm hn)]
 have C:=C.no hC
 have hb:=hb0.no C
 have hb3:=hb30.no C
 refine zz ?_
 refine zCp rfl (state_calls nm ((show∀a∈([[108,105]]:List (List UInt8)),a∉stN by decide+kernel) nm hn)) ?_
 refine zz ?_
 refine zEq rfl rfl (fun hq=>absurd hq ((show∀a∈([[108,105]]:List (List UInt8)),a≠ [116,101,109,112,108,97,116,101] by decide+kernel) nm hn)) (fun _=> ?_)
 refine zz ?_
 refine zCr rfl (B.in_calls nm W4 (by decide)) fun w5 hC=> ?_
 rw [decide_eq_false ((show∀a∈([[108,105]]:List (List UInt8)),a∉B.wd W4 by decide+kernel) nm hn)]
 have C:=C.no hC
 have hb:=hb0.no C
 have hb3:=hb30.no C
 refine zz ?_
 refine zCr rfl (B.has_calls 6 nm (by decide) (by decide)) fun w6 hC=> ?_
 rw [decide_eq_false ((show∀a∈([[108,105]]:List (List UInt8)),a∉B.wd (B.setW 6) by decide+kernel) nm hn)]
 have C:=C.no hC
 have hb:=hb0.no C
 have hb3:=hb30.no C
 refine zz ?_
 refine zCr rfl (B.in_calls nm W5 (by decide)) fun w7 hC=> ?_
 rw [decide_eq_false ((show∀a∈([[108,105]]:List (List UInt8)),a∉B.wd W5 by decide+kernel) nm hn)]
 have C:=C.no hC
 have hb:=hb0.no C
 have hb3:=hb30.no C
 refine zz ?_
 refine zCr rfl (B.has_calls 5 nm (by decide) (by decide)) fun w8 hC=> ?_
 rw [decide_eq_false ((show∀a∈([[108,105]]:List (List UInt8)),a∉B.wd (B.setW 5) by decide+kernel) nm hn)]
 have C:=C.no hC
 have hb:=hb0.no C
 have hb3:=hb30.no C
 refine zz ?_
 refine zCl rfl (more_li (h1.no C) hM (by omega) hl nm hn al (ha1.no C) hal hs hp0) ?_
 rintro _ wz hp
 obtain rfl:=hp.1
 refine ⟨_,rfl,?_⟩
 refine zN (zM ?_)
 exact zk_ret0 (.inl rfl) rfl (BPost.pre (hN1.chg.no C) hp)
theorem opens_a (h:IsB w b t q N (n::R) (f::fr) sk) (hM:MOk q.M (n::R) (f::fr)) (hf:fr.length≤700) (hl:N.length≤1900000) (nm:List UInt8) (hn:nm∈([[97]]:List (List UInt8))) (al:List T.At) {va:Value} (ha:AttrS w va (encT al)) (hal:al.length≤1000000) (hup: [97]∉upN (f::fr)):
  Calls Tryz.prog 132 [.pointer (some ⟨b,0,none⟩),T.tokV 1 nm va []].toArray w (BPost w b t q (⟨nm,al,.nil⟩::f::fr) sk (N.length+1) (.tuple #[])):=by
 obtain ⟨A0,c0,rfl,_⟩:=ha.form
 unfold T.tokV
 refine zCz 131 Tryz.func132 ?_
 refine zS (zR ?_)
 refine zBx rfl (fun w1 b3 hN1=> ?_)
 have hb30:Blk w1 b3 66 [.int .i64 1,.string (bs nm),.slice A0 (encT al).length c0,.bool false,.string (bs [])]:=hN1.blk
 have h1:=h.no hN1.chg
 have ha1:=ha.no hN1.chg
 have hb0:=h1.blk
 have hb:=hb0
 have hb3:=hb30
 have C:Chg w1 w1 No:=Chg.refl _ _
 refine zz ?_
 refine zCr rfl (B.in_calls nm W1 (by decide)) fun w2 hC=> ?_
 rw [decide_eq_false ((show∀a∈([[97]]:List (List UInt8)),a∉B.wd W1 by decide+kernel) nm hn)]
 have C:=C.no hC
 have hb:=hb0.no C
 have hb3:=hb30.no C
 refine zz ?_
 refine zCr rfl (B.in_calls nm W2 (by decide)) fun w3 hC=> ?_
 rw [decide_eq_false ((show∀a∈([[97]]:List (List UInt8)),a∉B.wd W2 by decide+kernel) nm hn)]
 have C:=C.no hC
 have hb:=hb0.no C
 have hb3:=hb30.no C
 refine zz ?_
 refine zEq rfl rfl (fun hq=>absurd hq ((show∀a∈([[97]]:List (List UInt8)),a≠ [104,114] by decide+kernel) nm hn)) (fun _=> ?_)
 refine zz ?_
 refine zCr rfl (B.in_calls nm W3 (by decide)) fun w4 hC=> ?_
 rw [decide_eq_false ((show∀a∈([[97]]:List (List UInt8)),a∉B.wd W3 by decide+kernel) nm hn)]
 have C:=C.no hC
 have hb:=hb0.no C
 have hb3:=hb30.no C
 refine zz ?_
 refine zCp rfl (state_calls nm ((show∀a∈([[97]]:List (List UInt8)),a∉stN by decide+kernel) nm hn)) ?_
 refine zz ?_
 refine zEq rfl rfl (fun hq=>absurd hq ((show∀a∈([[97]]:List (List UInt8)),a≠ [116,101,109,112,108,97,116,101] by decide+kernel) nm hn)) (fun _=> ?_)
 refine zz ?_
 refine zCr rfl (B.in_calls nm W4 (by decide)) fun w5 hC=> ?_
 rw [decide_eq_false ((show∀a∈([[97]]:List (List UInt8)),a∉B.wd W4 by decide+kernel) nm hn)]
 have C:=C.no hC
 have hb:=hb0.no C
 have hb3:=hb30.no C
 refine zz ?_
 refine zCr rfl (B.has_calls 6 nm (by decide) (by decide)) fun w6 hC=> ?_
 rw [decide_eq_false ((show∀a∈([[97]]:List (List UInt8)),a∉B.wd (B.setW 6) by decide+kernel) nm hn)]
 have C:=C.no hC
 have hb:=hb0.no C
 have hb3:=hb30.no C
 refine zz ?_
 refine zCr rfl (B.in_calls nm W5 (by decide)) fun w7 hC=> ?_
 rw [decide_eq_false ((show∀a∈([[97]]:List (List UInt8)),a∉B.wd W5 by decide+kernel) nm hn)]
 have C:=C.no hC
 have hb:=hb0.no C
 have hb3:=hb30.no C
 refine zz ?_
 refine zCr rfl (B.has_calls 5 nm (by decide) (by decide)) fun w8 hC=> ?_
 rw [decide_eq_false ((show∀a∈([[97]]:List (List UInt8)),a∉B.wd (B.setW 5) by decide+kernel) nm hn)]
 have C:=C.no hC
 have hb:=hb0.no C
 have hb3:=hb30.no C
 refine zz ?_
 refine zCl rfl (more_a (h1.no C) hM (by omega) hl nm hn al (ha1.no C) hal hup) ?_
 rintro _ wz hp
 obtain rfl:=hp.1
 refine ⟨_,rfl,?_⟩
 refine zN (zM ?_)
 exact zk_ret0 (.inl rfl) rfl (BPost.pre (hN1.chg.no C) hp)
theorem opens_fmt (h:IsB w b t q N (n::R) (f::fr) sk) (hM:MOk q.M (n::R) (f::fr)) (hf:fr.length≤700) (hl:N.length≤1900000) (nm:List UInt8) (hn:nm∈([[99,111,100,101],[101,109],[115,116,114,111,110,103]]:List (List UInt8))) (al:List T.At) {va:Value} (ha:AttrS w va (encT al)) (hal:al.length≤1000000) (hup:nm∉upN (f::fr)):
  Calls Tryz.prog 132 [.pointer (some ⟨b,0,none⟩),T.tokV 1 nm va []].toArray w (BPost w b t q (⟨nm,al,.nil⟩::f::fr) sk (N.length+1) (.tuple #[])):=by
 obtain ⟨A0,c0,rfl,_⟩:=ha.form
 unfold T.tokV
 refine zCz 131 Tryz.func132 ?_
 refine zS (zR ?_)
 refine zBx rfl (fun w1 b3 hN1=> ?_)
 have hb30:Blk w1 b3 66 [.int .i64 1,.string (bs nm),.slice A0 (encT al).length c0,.bool false,.string (bs [])]:=hN1.blk
 have h1:=h.no hN1.chg
 have ha1:=ha.no hN1.chg
 have hb0:=h1.blk
 have hb:=hb0
 have hb3:=hb30
 have C:Chg w1 w1 No:=Chg.refl _ _
 refine zz ?_
 refine zCr rfl (B.in_calls nm W1 (by decide)) fun w2 hC=> ?_
 rw [decide_eq_false ((show∀a∈([[99,111,100,101],[101,109],[115,116,114,111,110,103]]:List (List UInt8)),a∉B.wd W1 by decide+kernel) nm hn)]
 have C:=C.no hC
 have hb:=hb0.no C
 have hb3:=hb30.no C
 refine zz ?_
 refine zCr rfl (B.in_calls nm W2 (by decide)) fun w3 hC=> ?_
 rw [decide_eq_false ((show∀a∈([[99,111,100,101],[101,109],[115,116,114,111,110,103]]:List (List UInt8)),a∉B.wd W2 by decide+kernel) nm hn)]
 have C:=C.no hC
 have hb:=hb0.no C
 have hb3:=hb30.no C
 refine zz ?_
 refine zEq rfl rfl (fun hq=>absurd hq ((show∀a∈([[99,111,100,101],[101,109],[115,116,114,111,110,103]]:List (List UInt8)),a≠ [104,114] by decide+kernel) nm hn)) (fun _=> ?_)
 refine zz ?_
 refine zCr rfl (B.in_calls nm W3 (by decide)) fun w4 hC=> ?_
 rw [decide_eq_false ((show∀a∈([[99,111,100,101],[101,109],[115,116,114,111,110,103]]:List (List UInt8)),a∉B.wd W3 by decide+kernel) nm hn)]
 have C:=C.no hC
 have hb:=hb0.no C
 have hb3:=hb30.no C
 refine zz ?_
 refine zCp rfl (state_calls nm ((show∀a∈([[99,111,100,101],[101,109],[115,116,114,111,110,103]]:List (List UInt8)),a∉stN by decide+kernel) nm hn)) ?_
 refine zz ?_
 refine zEq rfl rfl (fun hq=>absurd hq ((show∀a∈([[99,111,100,101],[101,109],[115,116,114,111,110,103]]:List (List UInt8)),a≠ [116,101,109,112,108,97,116,101] by decide+kernel) nm hn)) (fun _=> ?_)
 refine zz ?_
 refine zCr rfl (B.in_calls nm W4 (by decide)) fun w5 hC=> ?_
 rw [decide_eq_false ((show∀a∈([[99,111,100,101],[101,109],[115,116,114,111,110,103]]:List (List UInt8)),a∉B.wd W4 by decide+kernel) nm hn)]
 have C:=C.no hC
 have hb:=hb0.no C
 have hb3:=hb30.no C
 refine zz ?_
 refine zCr rfl (B.has_calls 6 nm (by decide) (by decide)) fun w6 hC=> ?_
 rw [decide_eq_false ((show∀a∈([[99,111,100,101],[101,109],[115,116,114,111,110,103]]:List (List UInt8)),a∉B.wd (B.setW 6) by decide+kernel) nm hn)]
 have C:=C.no hC
 have hb:=hb0.no C
 have hb3:=hb30.no C
 refine zz ?_
 refine zCr rfl (B.in_calls nm W5 (by decide)) fun w7 hC=> ?_
 rw [decide_eq_false ((show∀a∈([[99,111,100,101],[101,109],[115,116,114,111,110,103]]:List (List UInt8)),a∉B.wd W5 by decide+kernel) nm hn)]
 have C:=C.no hC
 have hb:=hb0.no C
 have hb3:=hb30.no C
 refine zz ?_
 refine zCr rfl (B.has_calls 5 nm (by decide) (by decide)) fun w8 hC=> ?_
 rw [decide_eq_false ((show∀a∈([[99,111,100,101],[101,109],[115,116,114,111,110,103]]:List (List UInt8)),a∉B.wd (B.setW 5) by decide+kernel) nm hn)]
 have C:=C.no hC
 have hb:=hb0.no C
 have hb3:=hb30.no C
 refine zz ?_
 refine zCl rfl (more_fmt (h1.no C) hM (by omega) hl nm hn al (ha1.no C) hal hup) ?_
 rintro _ wz hp
 obtain rfl:=hp.1
 refine ⟨_,rfl,?_⟩
 refine zN (zM ?_)
 exact zk_ret0 (.inl rfl) rfl (BPost.pre (hN1.chg.no C) hp)
theorem opens_sub (h:IsB w b t q N (n::R) (f::fr) sk) (hM:MOk q.M (n::R) (f::fr)) (hf:fr.length≤700) (hl:N.length≤1900000) (nm:List UInt8) (hn:nm∈([[115,117,98],[115,117,112]]:List (List UInt8))) (al:List T.At) {va:Value} (ha:AttrS w va (encT al)) (hal:al.length≤1000000):
  Calls Tryz.prog 132 [.pointer (some ⟨b,0,none⟩),T.tokV 1 nm va []].toArray w (BPost w b t q (⟨nm,al,.nil⟩::f::fr) sk (N.length+1) (.tuple #[])):=by
 obtain ⟨A0,c0,rfl,_⟩:=ha.form
 unfold T.tokV
 refine zCz 131 Tryz.func132 ?_
 refine zS (zR ?_)
 refine zBx rfl (fun w1 b3 hN1=> ?_)
 have hb30:Blk w1 b3 66 [.int .i64 1,.string (bs nm),.slice A0 (encT al).length c0,.bool false,.string (bs [])]:=hN1.blk
 have h1:=h.no hN1.chg
 have ha1:=ha.no hN1.chg
 have hb0:=h1.blk
 have hb:=hb0
 have hb3:=hb30
 have C:Chg w1 w1 No:=Chg.refl _ _
 refine zz ?_
 refine zCr rfl (B.in_calls nm W1 (by decide)) fun w2 hC=> ?_
 rw [decide_eq_false ((show∀a∈([[115,117,98],[115,117,112]]:List (List UInt8)),a∉B.wd W1 by decide+kernel) nm hn)]
 have C:=C.no hC
 have hb:=hb0.no C
 have hb3:=hb30.no C
 refine zz ?_
 refine zCr rfl (B.in_calls nm W2 (by decide)) fun w3 hC=> ?_
 rw [decide_eq_false ((show∀a∈([[115,117,98],[115,117,112]]:List (List UInt8)),a∉B.wd W2 by decide+kernel) nm hn)]
 have C:=C.no hC
 have hb:=hb0.no C
 have hb3:=hb30.no C
 refine zz ?_
 refine zEq rfl rfl (fun hq=>absurd hq ((show∀a∈([[115,117,98],[115,117,112]]:List (List UInt8)),a≠ [104,114] by decide+kernel) nm hn)) (fun _=> ?_)
 refine zz ?_
 refine zCr rfl (B.in_calls nm W3 (by decide)) fun w4 hC=> ?_
 rw [decide_eq_false ((show∀a∈([[115,117,98],[115,117,112]]:List (List UInt8)),a∉B.wd W3 by decide+kernel) nm hn)]
 have C:=C.no hC
 have hb:=hb0.no C
 have hb3:=hb30.no C
 refine zz ?_
 refine zCp rfl (state_calls nm ((show∀a∈([[115,117,98],[115,117,112]]:List (List UInt8)),a∉stN by decide+kernel) nm hn)) ?_
 refine zz ?_
 refine zEq rfl rfl (fun hq=>absurd hq ((show∀a∈([[115,117,98],[115,117,112]]:List (List UInt8)),a≠ [116,101,109,112,108,97,116,101] by decide+kernel) nm hn)) (fun _=> ?_)
 refine zz ?_
 refine zCr rfl (B.in_calls nm W4 (by decide)) fun w5 hC=> ?_
 rw [decide_eq_false ((show∀a∈([[115,117,98],[115,117,112]]:List (List UInt8)),a∉B.wd W4 by decide+kernel) nm hn)]
 have C:=C.no hC
 have hb:=hb0.no C
 have hb3:=hb30.no C
 refine zz ?_
 refine zCr rfl (B.has_calls 6 nm (by decide) (by decide)) fun w6 hC=> ?_
 rw [decide_eq_false ((show∀a∈([[115,117,98],[115,117,112]]:List (List UInt8)),a∉B.wd (B.setW 6) by decide+kernel) nm hn)]
 have C:=C.no hC
 have hb:=hb0.no C
 have hb3:=hb30.no C
 refine zz ?_
 refine zCr rfl (B.in_calls nm W5 (by decide)) fun w7 hC=> ?_
 rw [decide_eq_false ((show∀a∈([[115,117,98],[115,117,112]]:List (List UInt8)),a∉B.wd W5 by decide+kernel) nm hn)]
 have C:=C.no hC
 have hb:=hb0.no C
 have hb3:=hb30.no C
 refine zz ?_
 refine zCr rfl (B.has_calls 5 nm (by decide) (by decide)) fun w8 hC=> ?_
 rw [decide_eq_false ((show∀a∈([[115,117,98],[115,117,112]]:List (List UInt8)),a∉B.wd (B.setW 5) by decide+kernel) nm hn)]
 have C:=C.no hC
 have hb:=hb0.no C
 have hb3:=hb30.no C
 refine zz ?_
 refine zCl rfl (more_sub (h1.no C) hM (by omega) hl nm hn al (ha1.no C) hal) ?_
 rintro _ wz hp
 obtain rfl:=hp.1
 refine ⟨_,rfl,?_⟩
 refine zN (zM ?_)
 exact zk_ret0 (.inl rfl) rfl (BPost.pre (hN1.chg.no C) hp)
end
end Go.Proofs.YtbcmiijollpgeaaGreat.D
