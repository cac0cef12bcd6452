import Derived.Test.YtbcmiijollpgeaaGreatWD
set_option maxHeartbeats 32000000
set_option maxRecDepth 100000
set_option linter.unusedVariables false
set_option linter.unusedSimpArgs false
namespace Go.Proofs.YtbcmiijollpgeaaGreat.T
open Go Go.Z Go.Proofs
def lTd:List (List UInt8):= [[116,100],[116,100],[116,104]]
theorem lTd_nm: ∀x∈lTd,x∈lNm:=by decide
def KidOk (w:World) (Bz N:Nat) (QK:AT→Prop) (vC K:Value) (kt:AT):Prop:=TreeOk w (fun b=>Bz≤b∧vC.ownBlock≠some b) K kt∧QK kt∧kt.size≤N
theorem KidOk.tp {w w':World} {Bz N B bt:Nat} {QK:AT→Prop} {vC K:Value} {kt:AT} (h:KidOk w Bz N QK vC K kt) (hT:Tp w B bt) (hc:Chg w w' (· =bt)):KidOk w' Bz N QK vC K kt:=⟨h.1.tp hT hc,h.2⟩
theorem KidOk.form {w:World} {Bz N:Nat} {QK:AT→Prop} {vC K:Value} {kt:AT} (h:KidOk w Bz N QK vC K kt): ∃A c,K= .slice A kt.len c∧kt.len≤c:=h.1.form
theorem hdN {nm:List UInt8} (h:nm∈lNm):HdOk ⟨nm,[],[]⟩:=⟨h,⟨by simp,by simp⟩,by simp,(by decide:([]:List UInt8)∈lTxs)⟩
abbrev mE (nm:List UInt8) (K:Value):MA:=⟨nm,nS,[],nS,K⟩
theorem wo_push {n:Nat} {e:Env} {w:World} {Q:Exit→Act→World→Prop} {ops:Array Oper} {K0:Act→World→Prop} {i:Nat} {d:Tmp} {a:Act} {ty:TypeId} {pos:String} {aft:Array Edge} {g:Option (Nat×Bool)} {s x:Operand} {Bz N:Nat} {QK:AT→Prop} {vC xv K:Value} {tC kt:AT} {nm:List UInt8}
  (hi:ops[i]? =some ⟨some d,.call {callee:= .builtin .append,args:= #[s,x],argTypes:= #[24,24]},ty,pos,aft,g⟩) (hw:Want ops e g) (ha:Ok n e a) (hs:ev e s=some vC) (hx:ev e x=some xv)
  (hO:Out Bz w vC tC) (hr:RdS w 43 5 xv 1 (encM [mE nm K])) (hk:KidOk w Bz N QK vC K kt) (hB:Bz≤w.heap.size) (hl:tC.len≤1000000000)
  (h: ∀v' w',Out Bz w' v' (tC.snoc ⟨nm,[],[]⟩ kt)→Chg w w' (fun j=>vC.ownBlock=some j)→K0 (a.put (some d) v') w'):wpOp Tryz.prog ops (NP Q) i K0 a w:=by
 obtain ⟨ms,g1,g2,g3⟩:=hO
 have hlen:=Out.len Bz g3
 obtain ⟨v',w',hr1,hO',hC',hr'⟩:=append_run (P:=Tryz.prog) (n:=n) (d:=d) (ty:=ty) (pos:=pos) (aft:=aft) (g:=g) (t:=24) (by rfl) (by decide) hs hx g1 hr (by omega) (by omega)
 exact wo_run hi hw rfl ha hr1 (h v' w' (Out.push g1 g2 g3 ⟨rfl,AtS.nil _,rfl,isSl_nil⟩ hk.1 hB (Chg.refl _ _) hO' hC' hr') hC')
theorem KidOk.own {w w':World} {Bz N Bz':Nat} {QK:AT→Prop} {vC K:Value} {tC kt:AT} (h:KidOk w Bz N QK vC K kt) (hO:Out Bz' w vC tC) (hc:Chg w w' (fun j=>vC.ownBlock=some j)):KidOk w' Bz N QK vC K kt:=by
 obtain ⟨ms,g1,_,_⟩:=hO
 exact ⟨h.1.chg hc (fun b cells _ hq he=>hq.2 he) (fun b cells hb he=>g1.ne he hb (by decide) rfl),h.2⟩
theorem Out.blk {w w':World} {Bz:Nat} {vC:Value} {tC:AT} (hO:Out Bz w vC tC) (hc:Chg w w' (fun j=>vC.ownBlock=some j)) {b:Nat} {cs:List Value} {ty:Nat} (h:Blk w b ty cs) (ht:ty≠43:=by decide):Blk w' b ty cs:=by
 obtain ⟨ms,g1,_,_⟩:=hO
 exact h.chg hc (fun he=>g1.ne he h (Ne.symm ht) rfl)
def GT (bt b7:Nat) (lv:Int) (Bz N:Nat) (QK:AT→Prop) (vC:Value) (tC:AT):Nat→Value→World→Prop
 |0,v,w=>v= .pointer (some ⟨b7,4,none⟩)
 |1,v,w=>v=vC
 |2,v,w=> ∃b,v= .slice (some ⟨b,0,none⟩) 3 3∧Blk w b 9 (strs lTd)
 |3,v,w=>v= .pointer (some ⟨bt,0,none⟩)
 |4,v,w=> ∃k:Nat,k<3∧v= .int .i64 k
 |5,v,w=> ∃b k,k<3∧v= .pointer (some ⟨b,k,none⟩)∧Blk w b 9 (strs lTd)
 |6,v,w=> ∃s∈lTd,v= .string (bs s)
 |7,v,w=>v= .pointer (some ⟨bt,0,none⟩)
 |8,v,w=>v= .int .i64 lv
 |9,v,w=>v= .int .i64 (lv+2)
 |10,v,w=> ∃kt,KidOk w Bz N QK vC v kt
 |11,v,w=> ∃s∈lTd,∃K kt,v= .agg #[.string (bs s),nS,.string (bs []),nS,K]∧KidOk w Bz N QK vC K kt
 |12,v,w=> ∃s∈lTd,∃K kt,RdS w 43 5 v 1 (encM [mE s K])∧KidOk w Bz N QK vC K kt
 |13,v,w=> ∃s∈lTd,∃kt,Out Bz w v (tC.snoc ⟨s,[],[]⟩ kt)∧QK kt∧kt.size≤N
 |14,v,w=>v= .pointer (some ⟨b7,4,none⟩)
 |_,_,_=>True
theorem GT.tp {bt b7:Nat} {lv:Int} {Bz N B:Nat} {QK:AT→Prop} {vC:Value} {tC:AT} {w w':World} (hT:Tp w B bt) (hc:Chg w w' (· =bt)): ∀j u,GT bt b7 lv Bz N QK vC tC j u w→GT bt b7 lv Bz N QK vC tC j u w'
 |0,u,h=>h
 |1,u,h=>h
 |2,u,⟨b,h1,h2⟩=>⟨b,h1,keepT hT hc _ _ _ (by decide) h2⟩
 |3,u,h=>h
 |4,u,h=>h
 |5,u,⟨b,k,h1,h2,h3⟩=>⟨b,k,h1,h2,keepT hT hc _ _ _ (by decide) h3⟩
 |6,u,h=>h
 |7,u,h=>h
 |8,u,h=>h
 |9,u,h=>h
 |10,u,⟨kt,h⟩=>⟨kt,h.tp hT hc⟩
 |11,u,⟨s,hs,K,kt,h1,h2⟩=>⟨s,hs,K,kt,h1,h2.tp hT hc⟩
 |12,u,⟨s,hs,K,kt,h1,h2⟩=>⟨s,hs,K,kt,RdS.tp h1 hT hc (by decide),h2.tp hT hc⟩
 |13,u,⟨s,hs,kt,h1,h2⟩=>⟨s,hs,kt,h1.tp hT hc,h2⟩
 |14,u,h=>h
 |_+15,u,h=>trivial
theorem GT.no {bt b7:Nat} {lv:Int} {Bz N B:Nat} {QK:AT→Prop} {vC:Value} {tC:AT} {w w':World} (hT:Tp w B bt) (hc:Chg w w' No) (j:Nat) (u:Value) (h:GT bt b7 lv Bz N QK vC tC j u w):GT bt b7 lv Bz N QK vC tC j u w':=GT.tp hT (hc.mono (fun _ _ h=>h.elim)) j u h
def killT:Nat→Nat
 |12=>13
 |_=>100
theorem GT.own {bt b7:Nat} {lv:Int} {Bz N:Nat} {QK:AT→Prop} {vC:Value} {tC:AT} {w w':World} (hO:Out Bz w vC tC) (hc:Chg w w' (fun j=>vC.ownBlock=some j)): ∀j u,j≠13→killT j≠13→GT bt b7 lv Bz N QK vC tC j u w→GT bt b7 lv Bz N QK vC tC j u w'
 |0,u,_,_,h=>h
 |1,u,_,_,h=>h
 |2,u,_,_,⟨b,h1,h2⟩=>⟨b,h1,hO.blk hc h2⟩
 |3,u,_,_,h=>h
 |4,u,_,_,h=>h
 |5,u,_,_,⟨b,k,h1,h2,h3⟩=>⟨b,k,h1,h2,hO.blk hc h3⟩
 |6,u,_,_,h=>h
 |7,u,_,_,h=>h
 |8,u,_,_,h=>h
 |9,u,_,_,h=>h
 |10,u,_,_,⟨kt,h⟩=>⟨kt,h.own hO hc⟩
 |11,u,_,_,⟨s,hs,K,kt,h1,h2⟩=>⟨s,hs,K,kt,h1,h2.own hO hc⟩
 |12,u,_,hk,h=>absurd rfl hk
 |13,u,h13,_,h=>absurd rfl h13
 |14,u,_,_,h=>h
 |_+15,u,_,_,h=>trivial
def nTable:List UInt8:= [116,97,98,108,101]
def nTbody:List UInt8:= [116,98,111,100,121]
def nTr:List UInt8:= [116,114]
theorem table_calls {lv d:Nat} (hl:lv≤100) (hI:ItemC (lv+2) d) {w:World} {B bt:Nat} {li:Int} (hT0:Tp w B bt) (hli:li=(lv:Int)) (hd100:blZ d≤1000000000):Calls Tryz.prog 40 [.pointer (some ⟨bt,0,none⟩),.int .i64 li].toArray w fun e w'=>
  ∃V la K k,e= .returned (.agg #[.string (bs nTable),V,.string (bs []),nS,K])∧AtS w' V la∧LN la∧(∀a∈la,a.1∈lKey∧a.2∈lVal)∧TreeOk w' (fun b=>w.heap.size≤b) K k∧k.okc [tBod] (4*d+13)∧k.size≤8+4*blZ d∧Tp w' B bt∧Chg w w' (· =bt):=by
 subst hli
 refine zCz 55 Tryz.func40 ?_
 refine zS (zR ?_)
 refine zAl (fun w1 b4 hN1=> ?_)
 have hb41:Blk w1 b4 43 [.string ⟨#[]⟩,nS,.string ⟨#[]⟩,nS,nS]:=hN1.blk
 refine zz ?_
 refine z_buildE #[.string (bs nTbody),nS,.string (bs []),nS,nS] (want_L rfl) (by decide) rfl (by kernel_rfl) ?_
 refine zAl (fun w2 b5 hN2=> ?_)
 have hb52:Blk w2 b5 43 [.string ⟨#[]⟩,nS,.string ⟨#[]⟩,nS,nS]:=hN2.blk
 refine z_store (want_L rfl) rfl rfl rfl (by assumption) (by first|exact Nat.le_refl _|simp [Value.cells]) (by simp [Value.cells,Value.oneCell']) (fun w3 hU3=> ?_)
 have hb53:Blk w3 b5 43 [.string (bs nTbody),nS,.string (bs []),nS,nS]:=hU3.blk
 have hX13:Chg w1 w3 No:=hN2.chg.upd hU3 (hN2.ge (Chg.refl _ No))
 have hX03:Chg w w3 No:=hN1.chg.no hX13
 have hT3:=hT0.no hX03
 have hb4lt:b4<b5:=by have:=hN1.blk.lt;have:=hN2.at_;omega
 have hb4ge:w.heap.size≤b4:=Nat.le_of_eq hN1.at_.symm
 have hb5lt:b5<w3.heap.size:=hb53.lt
 have hbtlt:=hT0.lt
 have hbtge:=hT0.ge
 refine zz ?_
 refine zc_loopW (ι:=Nat×Value×AT) (fun q u=> [(0,.pointer (some ⟨bt,0,none⟩)),(1,.int .i64 lv),(4,.pointer (some ⟨b4,0,none⟩)),(5,.pointer (some ⟨b5,0,none⟩)),(6,.int .i64 q.1)])
  (fun q u=>q.1≤2∧Out w3.heap.size u q.2.1 q.2.2∧q.2.2.okc [tTr] (4*d+12)∧q.2.2.len=q.1∧q.2.2.size≤q.1*(3+2*blZ d)∧Blk u b5 43 [.string (bs nTbody),nS,.string (bs []),nS,q.2.1]∧Blk u b4 43 [.string ⟨#[]⟩,nS,.string ⟨#[]⟩,nS,nS]∧Tp u B bt∧Chg w u (· =bt)∧w3.heap.size≤u.heap.size) (fun q u=>2 - q.1) (0,nS,.nil)
  ⟨by decide,Out.nil,AT.okc_nil _ _,rfl,by simp [AT.size],hb53,hb41.no hX13,hT3,hX03.mono (fun _ _ h=>h.elim),Nat.le_refl _⟩ ?_ ?_
 ·exact ⟨rfl,rfl,rfl,rfl,rfl,trivial⟩
 rintro ⟨r,vB,tB⟩ u ⟨hr,hOB,hokB,hlenB,hszB,hb5u,hb4u,hTu,hCu,hw3u⟩
 dsimp only at hr hOB hokB hlenB hszB hb5u hb4u hTu hCu hw3u ⊢
 have hsu:=hCu.size
 obtain ⟨AB,cB,hvB,hcB⟩:=hOB.form
 subst hvB
 refine zz ?_
 refine zCl rfl (next_calls hTu 2 (by decide) (by decide) rfl) ?_
 rintro _ u1 ⟨⟨nr,hnr,rfl⟩,hT1,hX1⟩
 refine ⟨_,rfl,?_⟩
 have hOB1:=hOB.tp hTu hX1
 have hb51:=keepT hTu hX1 _ _ _ (by decide) hb5u
 have hb41':=keepT hTu hX1 _ _ _ (by decide) hb4u
 have hC1:Chg w u1 (· =bt):=hCu.trans hX1 (fun _ _ h=>h)
 have hs1:=hX1.size
 by_cases hle:r≤nr
 ·have hr2:r≤1:=by omega
  refine zz ?_
  refine z_buildE #[.string (bs nTr),nS,.string (bs []),nS,nS] (want_L rfl) (by decide) rfl (by kernel_rfl) ?_
  refine zAl (fun u2 b7 hN7=> ?_)
  have hb72:Blk u2 b7 43 [.string ⟨#[]⟩,nS,.string ⟨#[]⟩,nS,nS]:=hN7.blk
  refine z_store (want_L rfl) rfl rfl rfl (by assumption) (by first|exact Nat.le_refl _|simp [Value.cells]) (by simp [Value.cells,Value.oneCell']) (fun u3 hU7=> ?_)
  have hb73:Blk u3 b7 43 [.string (bs nTr),nS,.string (bs []),nS,nS]:=hU7.blk
  have hX13':Chg u1 u3 No:=hN7.chg.upd hU7 (hN7.ge (Chg.refl _ No))
  have hT3':=hT1.no hX13'
  have hb7ge:u1.heap.size≤b7:=hN7.ge (Chg.refl _ No)
  have hb7lt:b7<u3.heap.size:=hb73.lt
  refine zz ?_
  refine zc_loopW (ι:=Nat×Value×AT) (fun q z=> [(0,.pointer (some ⟨bt,0,none⟩)),(1,.int .i64 lv),(4,.pointer (some ⟨b4,0,none⟩)),(5,.pointer (some ⟨b5,0,none⟩)),(6,.int .i64 r),(7,.pointer (some ⟨b7,0,none⟩)),(8,.int .i64 q.1)])
   (fun q z=>q.1≤2∧Out u3.heap.size z q.2.1 q.2.2∧q.2.2.okc tCell (4*d+11)∧q.2.2.len=q.1∧q.2.2.size≤q.1*(1+blZ d)∧Blk z b7 43 [.string (bs nTr),nS,.string (bs []),nS,q.2.1]∧Tp z B bt∧Chg u1 z (· =bt)∧u3.heap.size≤z.heap.size) (fun q z=>3 - q.1) (0,nS,.nil)
   ⟨by decide,Out.nil,AT.okc_nil _ _,rfl,by simp [AT.size],hb73,hT3',hX13'.mono (fun _ _ h=>h.elim),Nat.le_refl _⟩ ?_ ?_
  ·exact ⟨rfl,rfl,rfl,rfl,rfl,rfl,rfl,trivial⟩
  rintro ⟨c,vC,tC⟩ z ⟨hcc,hOC,hokC,hlenC,hszC,hb7z,hTz,hCz,hsz3⟩
  dsimp only at hcc hOC hokC hlenC hszC hb7z hTz hCz hsz3 ⊢
  obtain ⟨AC,cC,hvC,hcC⟩:=hOC.form
  subst hvC
  refine zz ?_
  refine zCl rfl (next_calls hTz 2 (by decide) (by decide) rfl) ?_
  rintro _ z1 ⟨⟨nc,hnc,rfl⟩,hTz1,hXz1⟩
  refine ⟨_,rfl,?_⟩
  have hOC1:=hOC.tp hTz hXz1
  have hb7z1:=keepT hTz hXz1 _ _ _ (by decide) hb7z
  have hCz1:Chg u1 z1 (· =bt):=hCz.trans hXz1 (fun _ _ h=>h)
  have hsz1:=hXz1.size
  by_cases hle2:c≤nc
  ·refine zz ?_
   refine zc_drawK 15 (GT bt b7 lv u3.heap.size (blZ d) (AT.oki (4*d+10)) (.slice AC tC.len cC) tC) killT (fun b z'=>Tp z' B bt∧Blk z' b7 43 [.string (bs nTr),nS,.string (bs []),nS,.slice AC tC.len cC]∧Chg u1 z' (· =bt)∧u3.heap.size≤z'.heap.size∧(b.getD 13 false=false→Out u3.heap.size z' (.slice AC tC.len cC) tC))
    [(0,.pointer (some ⟨bt,0,none⟩)),(1,.int .i64 lv),(4,.pointer (some ⟨b4,0,none⟩)),(5,.pointer (some ⟨b5,0,none⟩)),(6,.int .i64 r),(7,.pointer (some ⟨b7,0,none⟩)),(8,.int .i64 c)] (by rfl) (by kernel_rfl) (by kernel_rfl) ⟨rfl,rfl,rfl,rfl,rfl,rfl,rfl,trivial⟩ (fun z' hz _=>⟨hTz1.no hz,hb7z1.no hz,hCz1.no hz,by have:=hz.size;omega,fun _=>hOC1.no hz⟩) ?_ (by decide) (fun _=>⟨by kernel_rfl,by kernel_rfl⟩) ?_
   ·intro i hi b a y hbsz hbi hcl hL
    obtain ⟨hok,⟨hT,hB7,hC,hsz,hOut⟩,hd⟩:=hL
    have hstay: ∀{j:Nat},j≠13→(b.setIfInBounds j true).getD 13 false=false→b.getD 13 false=false:=fun hj h=>by rwa [gd_ne hj] at h
    have hnew: ∀{y':World},Chg y y' No→ ∀{j:Nat},j≠13→(Tp y' B bt∧Blk y' b7 43 [.string (bs nTr),nS,.string (bs []),nS,.slice AC tC.len cC]∧Chg u1 y' (· =bt)∧u3.heap.size≤y'.heap.size∧((b.setIfInBounds j true).getD 13 false=false→Out u3.heap.size y' (.slice AC tC.len cC) tC)):=fun hy j hj=>⟨hT.no hy,hB7.no hy,hC.no hy,by have:=hy.size;omega,fun h=>(hOut (hstay hj h)).no hy⟩
    have hnx: ∀{y':World},Tp y' B bt→Chg y y' (· =bt)→ ∀{j:Nat},j≠13→(Tp y' B bt∧Blk y' b7 43 [.string (bs nTr),nS,.string (bs []),nS,.slice AC tC.len cC]∧Chg u1 y' (· =bt)∧u3.heap.size≤y'.heap.size∧((b.setIfInBounds j true).getD 13 false=false→Out u3.heap.size y' (.slice AC tC.len cC) tC)):=fun hT' hy j hj=>⟨hT',keepT hT hy _ _ _ (by decide) hB7,hC.trans hy (fun _ _ h=>h),by have:=hy.size;omega,fun h=>(hOut (hstay hj h)).tp hT hy⟩
    have hsame:=fun {j:Nat} (hj:j≠13)=>hnew (Chg.refl y No) hj
    have g: ∀j,waits _ i j=true→(killT j=i∨15≤killT j)→ ∀dj,dstOf _ j=some dj→ ∃v,a.tmps[dj]? =some v∧GT bt b7 lv u3.heap.size (blZ d) (AT.oki (4*d+10)) (.slice AC tC.len cC) tC j v y:=fun j hw hk dj hdj=>by
     obtain ⟨v,h1,h2⟩:=hd j hw dj hdj
     exact ⟨v,h1,h2 (fun hh=>hh hk)⟩
    match i,hi with
    |0,_=>exact ⟨24,rfl,wo_run rfl (want_L rfl) rfl hok (r_fa rfl) ⟨_,rfl,rfl,hsame (by decide),fun _ _ _ _ h=>h⟩⟩
    |1,_=>
     obtain ⟨v,h1,rfl⟩:=g 0 (by kernel_rfl) (by decide) _ rfl
     exact ⟨25,rfl,wo_run rfl (want_L rfl) rfl (hok.cons h1) (r_loadB rfl hB7 (by rfl)) ⟨_,rfl,rfl,hsame (by decide),fun _ _ _ _ h=>h⟩⟩
    |2,_=>
     have hN:=New.mk' y 9 (strs lTd)
     exact ⟨26,rfl,wo_run rfl (want_L rfl) rfl hok (run_bsE (strs lTd) rfl (by decide) (by decide) (by kernel_rfl)) ⟨_,rfl,⟨_,rfl,hN.blk⟩,hnew hN.chg (by decide),fun j u _ _ h=>GT.no hT hN.chg j u h⟩⟩
    |3,_=>exact ⟨27,rfl,wo_pure rfl hok rfl ⟨_,rfl,rfl,hsame (by decide),fun _ _ _ _ h=>h⟩⟩
    |4,_=>
     obtain ⟨v,h1,rfl⟩:=g 3 (by kernel_rfl) (by decide) _ rfl
     refine ⟨28,rfl,wo_call rfl (want_L rfl) rfl (hok.cons h1) rfl (next_calls hT 3 (by decide) (by decide) rfl) ?_⟩
     rintro _ y' ⟨⟨k,hk,rfl⟩,hT',hC'⟩
     exact ⟨_,rfl,_,rfl,⟨k,hk,rfl⟩,hnx hT' hC' (by decide),fun j u _ _ h=>GT.tp hT hC' j u h⟩
    |5,_=>
     obtain ⟨v0,h0,bq,rfl,hb⟩:=g 2 (by kernel_rfl) (by decide) _ rfl
     obtain ⟨v2,h2,k,hk,rfl⟩:=g 4 (by kernel_rfl) (by decide) _ rfl
     exact ⟨29,rfl,wo_run rfl (want_L rfl) rfl ((hok.cons h0).cons h2) (r_ia rfl rfl (by omega) (by omega)) ⟨_,rfl,⟨bq,k,hk,by simp,hb⟩,hsame (by decide),fun _ _ _ _ h=>h⟩⟩
    |6,_=>
     obtain ⟨v3,h3,bq,k,hk,rfl,hb⟩:=g 5 (by kernel_rfl) (by decide) _ rfl
     exact ⟨30,rfl,wo_run rfl (want_L rfl) rfl (hok.cons h3) (r_load1 rfl ((hb.cell k).trans (strs_get lTd k hk))) ⟨_,rfl,⟨_,getD_mem lTd k hk,rfl⟩,hsame (by decide),fun _ _ _ _ h=>h⟩⟩
    |7,_=>exact ⟨31,rfl,wo_pure rfl hok rfl ⟨_,rfl,rfl,hsame (by decide),fun _ _ _ _ h=>h⟩⟩
    |8,_=>exact ⟨32,rfl,wo_pure rfl hok rfl ⟨_,rfl,rfl,hsame (by decide),fun _ _ _ _ h=>h⟩⟩
    |9,_=>
     obtain ⟨v8,h8,rfl⟩:=g 8 (by kernel_rfl) (by decide) _ rfl
     exact ⟨33,rfl,wo_run rfl (want_L rfl) rfl (hok.cons h8) (r_add rfl rfl (by omega) (by omega)) ⟨_,rfl,rfl,hsame (by decide),fun _ _ _ _ h=>h⟩⟩
    |10,_=>
     obtain ⟨v7,h7,rfl⟩:=g 7 (by kernel_rfl) (by decide) _ rfl
     obtain ⟨v9,h9,rfl⟩:=g 9 (by kernel_rfl) (by decide) _ rfl
     have hb13:b.getD 13 false=false:=by
      rcases h13:b.getD 13 false with _|_
      ·rfl
      ·have e1:=hcl 13 12 h13 (by kernel_rfl)
       have e2:=hcl 12 11 e1 (by kernel_rfl)
       have e3:=hcl 11 10 e2 (by kernel_rfl)
       rw [hbi] at e3;cases e3
     have hO:=hOut hb13
     refine ⟨34,rfl,wo_call rfl (want_L rfl) rfl ((hok.cons h7).cons h9) rfl (hI (li:=lv+2) hT (by omega)) ?_⟩
     rintro _ y' ⟨vK,kt,rfl,hK,hkok,hks,hT',hC'⟩
     exact ⟨_,rfl,_,rfl,⟨kt,TreeOk.under hO (by omega) (Nat.le_refl _) hK.tree,hkok,hks⟩,hnx hT' hC' (by decide),fun j u _ _ h=>GT.tp hT hC' j u h⟩
    |11,_=>
     obtain ⟨v6,h6,s,hs,rfl⟩:=g 6 (by kernel_rfl) (by decide) _ rfl
     obtain ⟨v10,h10,kt,hk⟩:=g 10 (by kernel_rfl) (by decide) _ rfl
     obtain ⟨AK,cK,rfl,_⟩:=hk.form
     exact ⟨35,rfl,wo_run rfl (want_L rfl) rfl ((hok.cons h6).cons h10) (r_build' (cells:= #[.string (bs s),nS,.string (bs []),nS,.slice AK kt.len cK]) rfl (by kernel_rfl)) ⟨_,rfl,⟨s,hs,_,kt,rfl,hk⟩,hsame (by decide),fun _ _ _ _ h=>h⟩⟩
    |12,_=>
     obtain ⟨v11,h11,s,hs,K,kt,rfl,hk⟩:=g 11 (by kernel_rfl) (by decide) _ rfl
     have hN:=New.mk' y 43 (encM [mE s K])
     have hrd:=RdS.art (x:=⟨s,[],[]⟩) ⟨rfl,AtS.nil _,rfl,isSl_nil⟩ hk.1 hN
     obtain ⟨AK,cK,rfl,_⟩:=hk.form
     exact ⟨36,rfl,wo_run rfl (want_L rfl) rfl (hok.cons h11) (run_bsE (encM [mE s (.slice AK kt.len cK)]) rfl (by decide) (by decide) (by kernel_rfl)) ⟨_,rfl,⟨s,hs,_,kt,hrd,hk.tp hT (hN.chg.mono (fun _ _ h=>h.elim))⟩,hnew hN.chg (by decide),fun j u _ _ h=>GT.no hT hN.chg j u h⟩⟩
    |13,_=>
     obtain ⟨v1,h1,rfl⟩:=g 1 (by kernel_rfl) (by decide) _ rfl
     obtain ⟨v12,h12,s,hs,K,kt,hr12,hk⟩:=g 12 (by kernel_rfl) (by decide) _ rfl
     have hO:=hOut hbi
     have hown: ∀k,(Value.slice AC tC.len cC).ownBlock=some k→u3.heap.size≤k:=fun k hk=>by obtain ⟨ms,_,g2,_⟩:=hO;exact g2 k hk
     refine ⟨37,rfl,wo_push rfl (want_L rfl) ((hok.cons h1).cons h12) rfl rfl hO hr12 hk hsz (by omega) (fun v' y' hO' hC'=> ?_)⟩
     refine ⟨v',rfl,⟨s,hs,kt,hO',hk.2⟩,⟨hT.own hO (by have:=hT0.lt;have:=hT0.ge;omega) hC',hB7.chg hC' (fun he=>by have:=hown _ he;omega),Chg.own hC hO (by omega) hC',by have:=hC'.size;omega,fun h=> ?_⟩,fun j u hj hk' h=>GT.own hO hC' j u hj hk' h⟩
     have h':13<b.size:=by rw [hbsz];decide
     simp [h'] at h
    |14,_=>exact ⟨38,rfl,wo_run rfl (want_L rfl) rfl hok (r_fa rfl) ⟨_,rfl,rfl,hsame (by decide),fun _ _ _ _ h=>h⟩⟩
   ·intro b a y hL
    obtain ⟨hok,⟨hT,hB7,hC,hsz,_⟩,hd⟩:=hL
    obtain ⟨v13,h13,g13⟩:=hd 13 (by decide) _ rfl
    obtain ⟨v14,h14,g14⟩:=hd 14 (by decide) _ rfl
    obtain ⟨s,hs,kt,hO',hkok,hks⟩:=g13 (by decide)
    obtain rfl:=g14 (by decide)
    obtain ⟨A',c',rfl,hcc'⟩:=hO'.form
    rw [if_pos (by decide)]
    refine wo_store rfl (want_L rfl) ((hok.cons h13).cons h14) rfl rfl (by rfl) hB7 (by simp) (by simp [Value.cells,Value.oneCell']) (fun y2 hU2=> ?_)
    have hb7y:Blk y2 b7 43 [.string (bs nTr),nS,.string (bs []),nS,.slice A' (tC.snoc ⟨s,[],[]⟩ kt).len c']:=hU2.blk
    refine np_zk (e:= [(0,.pointer (some ⟨bt,0,none⟩)),(1,.int .i64 lv),(4,.pointer (some ⟨b4,0,none⟩)),(5,.pointer (some ⟨b5,0,none⟩)),(6,.int .i64 r),(7,.pointer (some ⟨b7,0,none⟩)),(8,.int .i64 c)]) ?_ hok
    have hO2:Out u3.heap.size y2 (.slice A' (tC.snoc ⟨s,[],[]⟩ kt).len c') (tC.snoc ⟨s,[],[]⟩ kt):=hO'.chg hU2.chg (fun b' cells _ hb' he=>by omega) (fun b' cells hb' he=>hb'.ne hB7 (by decide) he)
    have hT2:Tp y2 B bt:=hT.oth hU2.chg (fun he=>by obtain ⟨cs,hb⟩:=hT.blk;exact hb.ne hB7 (by decide) he) (fun k _ hk=>by omega)
    refine zz ?_
    refine zk_loopW (c+1,.slice A' (tC.snoc ⟨s,[],[]⟩ kt).len c',tC.snoc ⟨s,[],[]⟩ kt) ⟨by omega,hO2,AT.okc_snoc hokC (hdN (lTd_nm s hs)) ((show∀a∈lTd,a∈tCell by decide) s hs) ((show∀a∈lTd,a≠ [] by decide) s hs) (kids_cell ((show∀a∈lTd,a∈([[108,105],[116,100],[116,104]]:List (List UInt8)) by decide) s hs) hkok.2.2.1) hkok.1 hkok.2.1 (by have:=hkok.2.2.2;omega),by rw [AT.snoc_len,hlenC],?_,hb7y,hT2,hC.trans hU2.chg (fun k hk he=>by omega),by have:=hU2.chg.size;omega⟩ (by show 3 - (c+1)<3 - c;omega) ⟨rfl,rfl,rfl,rfl,rfl,rfl,get_int rfl (by simp),trivial⟩
    dsimp only
    rw [AT.snoc_size,Nat.add_mul,Nat.one_mul];omega
  ·have hOC1t:=hOC1.tree
   have hKr:KidOk z1 w3.heap.size (2+2*blZ d) (AT.okc tCell (4*d+11)) (.slice AB tB.len cB) (.slice AC tC.len cC) tC:=⟨TreeOk.under hOB1 (by have:=hX13'.size;omega) (by have:=hX13'.size;omega) hOC1t,hokC,by
    have h1:=Nat.mul_le_mul_right (1+blZ d) hcc
    omega⟩
   have hOBz:=hOB1.tp hT1 hCz1
   have hb5z:=keepT hT1 hCz1 _ _ _ (by decide) hb51
   have hb4z:=keepT hT1 hCz1 _ _ _ (by decide) hb41'
   have hCwz:Chg w z1 (· =bt):=hC1.trans hCz1 (fun _ _ h=>h)
   have hw3z:w3.heap.size≤z1.heap.size:=by have:=hX13'.size;omega
   refine zz ?_
   refine z_bsE (encM [mE nTr (.slice AC tC.len cC)]) (want_L rfl) (by decide) rfl (by decide) (by decide) (by kernel_rfl) (fun p1 pb hP=> ?_)
   refine z_push (h:=⟨nTr,[],[]⟩) (k:=tC) (m:=mE nTr (.slice AC tC.len cC)) (want_L rfl) (by decide) rfl rfl hOBz ⟨rfl,AtS.nil _,rfl,isSl_nil⟩ hKr.1 (by omega) hP (by omega) (fun p2 q2 hP2 hPC=> ?_)
   obtain ⟨A',c',rfl,_⟩:=hP2.form
   have hown: ∀k,(Value.slice AB tB.len cB).ownBlock=some k→w3.heap.size≤k:=fun k hk=>by obtain ⟨ms,_,g2,_⟩:=hOBz;exact g2 k hk
   have hb5q:=hb5z.chg hPC (fun he=>by have:=hown _ he;omega)
   have hb4q:=hb4z.chg hPC (fun he=>by have:=hown _ he;omega)
   have hTq:=hTz1.own hOBz (by omega) hPC
   have hCq:=Chg.own hCwz hOBz (by have:=hN1.chg.size;have:=hX13.size;omega) hPC
   refine zfa rfl ?_
   refine z_store (want_L rfl) rfl rfl rfl (by assumption) (by first|exact Nat.le_refl _|simp [Value.cells]) (by simp [Value.cells,Value.oneCell']) (fun q3 hU3=> ?_)
   have hb5s:Blk q3 b5 43 [.string (bs nTbody),nS,.string (bs []),nS,.slice A' (tB.snoc ⟨nTr,[],[]⟩ tC).len c']:=hU3.blk
   have hO3:Out w3.heap.size q3 (.slice A' (tB.snoc ⟨nTr,[],[]⟩ tC).len c') (tB.snoc ⟨nTr,[],[]⟩ tC):=hP2.chg hU3.chg (fun b' cells _ hb' he=>by omega) (fun b' cells hb' he=>hb'.ne hb5q (by decide) he)
   refine zz ?_
   refine zk_loopW (r+1,.slice A' (tB.snoc ⟨nTr,[],[]⟩ tC).len c',tB.snoc ⟨nTr,[],[]⟩ tC) ⟨by omega,hO3,AT.okc_snoc hokB (hdN (by decide)) (by decide:nTr∈ [tTr]) (by decide:nTr≠ []) (kids_tr (by decide) hokC.2.2.1) hokC.1 hokC.2.1 (by have:=hokC.2.2.2;omega),by rw [AT.snoc_len,hlenB],?_,hb5s,hb4q.chg hU3.chg (fun he=>by omega),hTq.oth hU3.chg (fun he=>by omega) (fun k _ hk=>by omega),hCq.trans hU3.chg (fun k hk he=>by omega),by have:=hPC.size;have:=hU3.chg.size;omega⟩ (by show 2 - (r+1)<2 - r;omega) ⟨rfl,rfl,rfl,rfl,get_int rfl (by simp),trivial⟩
   dsimp only
   have:=hKr.2.2
   rw [AT.snoc_size,Nat.add_mul,Nat.one_mul];omega
 ·have hKB:KidOk u1 w3.heap.size (6+4*blZ d) (AT.okc [tTr] (4*d+12)) (.slice none 0 0) (.slice AB tB.len cB) tB:=⟨hOB1.tree.mono (fun b _ hb=>⟨hb,fun h=>by cases h⟩),hokB,by
   have h1:=Nat.mul_le_mul_right (3+2*blZ d) hr
   omega⟩
  refine zz ?_
  refine z_bsE (encM [mE nTbody (.slice AB tB.len cB)]) (want_L rfl) (by decide) rfl (by decide) (by decide) (by kernel_rfl) (fun p1 pb hP=> ?_)
  have hrd:=RdS.art (x:=⟨nTbody,[],[]⟩) ⟨rfl,AtS.nil _,rfl,isSl_nil⟩ hKB.1 hP
  have hK1:TreeOk p1 (fun b=>w3.heap.size≤b) (.slice (some ⟨pb,0,none⟩) 1 1) (.cons ⟨nTbody,[],[]⟩ tB .nil):=
   ⟨[mE nTbody (.slice AB tB.len cB)],hrd,fun _ b hb=>by simp only [Value.ownBlock,Option.some.injEq] at hb;have:=hP.at_;omega,_,[],rfl,⟨rfl,AtS.nil _,rfl,isSl_nil⟩,(hKB.1.no hP.chg).mono (fun b _ h=>h.1),rfl⟩
  have hokK:(AT.cons ⟨nTbody,[],[]⟩ tB .nil).okc [tBod] (4*d+13):=AT.okc_snoc (t:= .nil) (AT.okc_nil _ _) (hdN (by decide)) (by decide:nTbody∈ [tBod]) (by decide:nTbody≠ []) (kids_bod (by decide) hokB.2.2.1) hokB.1 hokB.2.1 (by have:=hokB.2.2.2;omega)
  have hszK:(AT.cons ⟨nTbody,[],[]⟩ tB .nil).size≤8+4*blZ d:=by have:=hKB.2.2;simp only [AT.size];omega
  have hTp1:=hT1.no hP.chg
  have hb4p:=hb41'.no hP.chg
  have hCp1:Chg w p1 (· =bt):=hC1.no hP.chg
  refine z_buildE #[.string (bs nTable),nS,.string (bs []),nS,.slice (some ⟨pb,0,none⟩) 1 1] (want_L rfl) (by decide) rfl (by kernel_rfl) ?_
  refine zAl (fun p2 b9 hN9=> ?_)
  have hb92:Blk p2 b9 43 [.string ⟨#[]⟩,nS,.string ⟨#[]⟩,nS,nS]:=hN9.blk
  refine z_store (want_L rfl) rfl rfl rfl (by assumption) (by first|exact Nat.le_refl _|simp [Value.cells]) (by simp [Value.cells,Value.oneCell']) (fun p3 hU9=> ?_)
  have hb93:Blk p3 b9 43 [.string (bs nTable),nS,.string (bs []),nS,.slice (some ⟨pb,0,none⟩) 1 1]:=hU9.blk
  have hX9:Chg p1 p3 No:=hN9.chg.upd hU9 (hN9.ge (Chg.refl _ No))
  have hb9ge:p1.heap.size≤b9:=hN9.ge (Chg.refl _ No)
  have hsp1:=hCp1.size
  have hK3:=hK1.no hX9
  refine zz ?_
  refine zCl rfl (titled_calls (nm:=nTable) (tx:= []) isSl_nil isSl_nil hK3.at'.weak (by omega)) ?_
  rintro _ p4 ⟨⟨q,rfl⟩,hX4⟩
  refine ⟨_,rfl,?_⟩
  have hK4:=hK3.no hX4
  have hb94:=hb93.no hX4
  have hb44:=(hb4p.no hX9).no hX4
  have hT4:=(hTp1.no hX9).no hX4
  have hC4:Chg w p4 (· =bt):=(hCp1.no hX9).no hX4
  have h49:b4<b9:=by have:=hb4p.lt;omega
  cases q
  ·refine zz ?_
   refine z_buildE #[.string (bs [114,111,108,101]),.string (bs sPres)] (want_L rfl) (by decide) rfl (by kernel_rfl) ?_
   refine z_bsE (encA [([114,111,108,101],sPres)]) (want_L rfl) (by decide) rfl (by decide) (by decide) (by kernel_rfl) (fun p5 ba hA=> ?_)
   have hA5:AtS p5 (.slice (some ⟨ba,0,none⟩) 1 1) [([114,111,108,101],sPres)]:=RdS.new hA rfl (encA_one _)
   have hb95:=hb94.no hA.chg
   have hK5:=hK4.no hA.chg
   have hb45:=hb44.no hA.chg
   have hT5:=hT4.no hA.chg
   have hC5:Chg w p5 (· =bt):=hC4.no hA.chg
   refine zfa rfl ?_
   refine z_store (want_L rfl) rfl rfl rfl (by assumption) (by first|exact Nat.le_refl _|simp [Value.cells]) (by simp [Value.cells,Value.oneCell']) (fun p6 hU6=> ?_)
   have hb96:Blk p6 b9 43 [.string (bs nTable),.slice (some ⟨ba,0,none⟩) 1 1,.string (bs []),nS,.slice (some ⟨pb,0,none⟩) 1 1]:=hU6.blk
   have hpb:pb<p1.heap.size:=hP.blk.lt
   have hX56:Chg p1 p6 No:=((hX9.no hX4).no hA.chg).upd hU6 hb9ge
   have hK6:=hK1.no hX56
   have hA6:AtS p6 (.slice (some ⟨ba,0,none⟩) 1 1) [([114,111,108,101],sPres)]:=RdS.chg hA5 hU6.chg (fun b cells hb he=>hb.ne hb95 (by decide) he)
   have hb46:=hb4p.no hX56
   refine zz ?_
   refine z_store (want_L rfl) rfl rfl rfl (by assumption) (by first|exact Nat.le_refl _|simp [Value.cells]) (by simp [Value.cells,Value.oneCell']) (fun p7 hU7=> ?_)
   have hb47:Blk p7 b4 43 [.string (bs nTable),.slice (some ⟨ba,0,none⟩) 1 1,.string (bs []),nS,.slice (some ⟨pb,0,none⟩) 1 1]:=hU7.blk
   refine zN (zK (zE ?_))
   have hb4lt3:b4<w3.heap.size:=by omega
   refine zk_retC (.inr rfl) rfl rfl hb47 rfl ⟨_,[([114,111,108,101],sPres)],_,_,rfl,RdS.chg hA6 hU7.chg (fun b cells hb he=>hb.ne hb46 (by decide) he),by decide,by decide,(hK6.chg hU7.chg (fun b cells _ hb he=>by omega) (fun b cells hb he=>hb.ne hb46 (by decide) he)).mono (fun b _ hb=>by have:=hX03.size;omega),hokK,hszK,?_,?_⟩
   ·exact (hTp1.no hX56).oth hU7.chg (fun he=>by omega) (fun k _ hk=>by omega)
   ·exact (hCp1.no hX56).trans hU7.chg (fun k hk he=>by omega)
  ·refine zz ?_
   refine z_store (want_L rfl) rfl rfl rfl (by assumption) (by first|exact Nat.le_refl _|simp [Value.cells]) (by simp [Value.cells,Value.oneCell']) (fun p7 hU7=> ?_)
   have hb47:Blk p7 b4 43 [.string (bs nTable),nS,.string (bs []),nS,.slice (some ⟨pb,0,none⟩) 1 1]:=hU7.blk
   refine zN (zK (zE ?_))
   refine zk_retC (.inr rfl) rfl rfl hb47 rfl ⟨_,[],_,_,rfl,AtS.nil _,by decide,by simp,(hK4.chg hU7.chg (fun b cells _ hb he=>by omega) (fun b cells hb he=>hb.ne hb44 (by decide) he)).mono (fun b _ hb=>by have:=hX03.size;omega),hokK,hszK,?_,?_⟩
   ·exact hT4.oth hU7.chg (fun he=>by omega) (fun k _ hk=>by omega)
   ·exact hC4.trans hU7.chg (fun k hk he=>by omega)
def lP:List (List UInt8):= [[112],[112],[112,114,101],[112]]
def lH:List (List UInt8):= [[104,50],[104,51],[104,52],[104,53],[104,54]]
theorem lP_nm: ∀x∈lP,x∈lNm:=by decide
theorem lH_nm: ∀x∈lH,x∈lNm:=by decide
def GP (bt kk:Nat) (Bz N:Nat) (QK:AT→Prop) (vC:Value) (tC:AT):Nat→Value→World→Prop
 |0,v,w=>v=vC
 |1,v,w=> ∃b,v= .slice (some ⟨b,0,none⟩) 4 4∧Blk w b 9 (strs lP)
 |2,v,w=>v= .int .i64 kk
 |3,v,w=> ∃b,v= .pointer (some ⟨b,kk,none⟩)∧Blk w b 9 (strs lP)
 |4,v,w=> ∃s∈lP,v= .string (bs s)
 |5,v,w=>v= .pointer (some ⟨bt,0,none⟩)
 |6,v,w=> ∃kt,KidOk w Bz N QK vC v kt
 |7,v,w=> ∃s∈lP,∃K kt,v= .agg #[.string (bs s),nS,.string (bs []),nS,K]∧KidOk w Bz N QK vC K kt
 |8,v,w=> ∃s∈lP,∃K kt,RdS w 43 5 v 1 (encM [mE s K])∧KidOk w Bz N QK vC K kt
 |9,v,w=> ∃s∈lP,∃kt,Out Bz w v (tC.snoc ⟨s,[],[]⟩ kt)∧QK kt∧kt.size≤N
 |_,_,_=>True
theorem GP.tp {bt kk:Nat} {Bz N B:Nat} {QK:AT→Prop} {vC:Value} {tC:AT} {w w':World} (hT:Tp w B bt) (hc:Chg w w' (· =bt)): ∀j u,GP bt kk Bz N QK vC tC j u w→GP bt kk Bz N QK vC tC j u w'
 |0,u,h=>h
 |1,u,⟨b,h1,h2⟩=>⟨b,h1,keepT hT hc _ _ _ (by decide) h2⟩
 |2,u,h=>h
 |3,u,⟨b,h1,h2⟩=>⟨b,h1,keepT hT hc _ _ _ (by decide) h2⟩
 |4,u,h=>h
 |5,u,h=>h
 |6,u,⟨kt,h⟩=>⟨kt,h.tp hT hc⟩
 |7,u,⟨s,hs,K,kt,h1,h2⟩=>⟨s,hs,K,kt,h1,h2.tp hT hc⟩
 |8,u,⟨s,hs,K,kt,h1,h2⟩=>⟨s,hs,K,kt,RdS.tp h1 hT hc (by decide),h2.tp hT hc⟩
 |9,u,⟨s,hs,kt,h1,h2⟩=>⟨s,hs,kt,h1.tp hT hc,h2⟩
 |_+10,u,h=>trivial
theorem GP.no {bt kk:Nat} {Bz N B:Nat} {QK:AT→Prop} {vC:Value} {tC:AT} {w w':World} (hT:Tp w B bt) (hc:Chg w w' No) (j:Nat) (u:Value) (h:GP bt kk Bz N QK vC tC j u w):GP bt kk Bz N QK vC tC j u w':=GP.tp hT (hc.mono (fun _ _ h=>h.elim)) j u h
def killGP:Nat→Nat
 |8=>9
 |_=>100
theorem GP.own {bt kk:Nat} {Bz N:Nat} {QK:AT→Prop} {vC:Value} {tC:AT} {w w':World} (hO:Out Bz w vC tC) (hc:Chg w w' (fun j=>vC.ownBlock=some j)): ∀j u,j≠9→killGP j≠9→GP bt kk Bz N QK vC tC j u w→GP bt kk Bz N QK vC tC j u w'
 |0,u,_,_,h=>h
 |1,u,_,_,⟨b,h1,h2⟩=>⟨b,h1,hO.blk hc h2⟩
 |2,u,_,_,h=>h
 |3,u,_,_,⟨b,h1,h2⟩=>⟨b,h1,hO.blk hc h2⟩
 |4,u,_,_,h=>h
 |5,u,_,_,h=>h
 |6,u,_,_,⟨kt,h⟩=>⟨kt,h.own hO hc⟩
 |7,u,_,_,⟨s,hs,K,kt,h1,h2⟩=>⟨s,hs,K,kt,h1,h2.own hO hc⟩
 |8,u,_,hk,h=>absurd rfl hk
 |9,u,h13,_,h=>absurd rfl h13
 |_+10,u,_,_,h=>trivial
def GH (bt kk:Nat) (Bz N:Nat) (QK:AT→Prop) (vC:Value) (tC:AT):Nat→Value→World→Prop
 |0,v,w=>v=vC
 |1,v,w=>v= .pointer (some ⟨bt,0,none⟩)
 |2,v,w=> ∃k:Nat,k<5∧v= .int .i64 k
 |3,v,w=> ∃k:Nat,k<5∧v= .int .i64 (50+(k:Int))
 |4,v,w=> ∃k:Nat,k<5∧v= .int .u8 (UInt8.ofNat (50+k)).toNat
 |5,v,w=> ∃b,∃k:Nat,k<5∧v= .slice (some ⟨b,0,none⟩) 1 1∧Blk w b 5 (cellsB [UInt8.ofNat (50+k)])
 |6,v,w=> ∃k:Nat,k<5∧v= .string (bs [UInt8.ofNat (50+k)])
 |7,v,w=> ∃s∈lH,v= .string (bs s)
 |8,v,w=>v= .pointer (some ⟨bt,0,none⟩)
 |9,v,w=> ∃kt,KidOk w Bz N QK vC v kt
 |10,v,w=> ∃s∈lH,∃K kt,v= .agg #[.string (bs s),nS,.string (bs []),nS,K]∧KidOk w Bz N QK vC K kt
 |11,v,w=> ∃s∈lH,∃K kt,RdS w 43 5 v 1 (encM [mE s K])∧KidOk w Bz N QK vC K kt
 |12,v,w=> ∃s∈lH,∃kt,Out Bz w v (tC.snoc ⟨s,[],[]⟩ kt)∧QK kt∧kt.size≤N
 |_,_,_=>True
theorem GH.tp {bt kk:Nat} {Bz N B:Nat} {QK:AT→Prop} {vC:Value} {tC:AT} {w w':World} (hT:Tp w B bt) (hc:Chg w w' (· =bt)): ∀j u,GH bt kk Bz N QK vC tC j u w→GH bt kk Bz N QK vC tC j u w'
 |0,u,h=>h
 |1,u,h=>h
 |2,u,h=>h
 |3,u,h=>h
 |4,u,h=>h
 |5,u,⟨b,k,h1,h2,h3⟩=>⟨b,k,h1,h2,keepT hT hc _ _ _ (by decide) h3⟩
 |6,u,h=>h
 |7,u,h=>h
 |8,u,h=>h
 |9,u,⟨kt,h⟩=>⟨kt,h.tp hT hc⟩
 |10,u,⟨s,hs,K,kt,h1,h2⟩=>⟨s,hs,K,kt,h1,h2.tp hT hc⟩
 |11,u,⟨s,hs,K,kt,h1,h2⟩=>⟨s,hs,K,kt,RdS.tp h1 hT hc (by decide),h2.tp hT hc⟩
 |12,u,⟨s,hs,kt,h1,h2⟩=>⟨s,hs,kt,h1.tp hT hc,h2⟩
 |_+13,u,h=>trivial
theorem GH.no {bt kk:Nat} {Bz N B:Nat} {QK:AT→Prop} {vC:Value} {tC:AT} {w w':World} (hT:Tp w B bt) (hc:Chg w w' No) (j:Nat) (u:Value) (h:GH bt kk Bz N QK vC tC j u w):GH bt kk Bz N QK vC tC j u w':=GH.tp hT (hc.mono (fun _ _ h=>h.elim)) j u h
def killGH:Nat→Nat
 |11=>12
 |_=>100
theorem GH.own {bt kk:Nat} {Bz N:Nat} {QK:AT→Prop} {vC:Value} {tC:AT} {w w':World} (hO:Out Bz w vC tC) (hc:Chg w w' (fun j=>vC.ownBlock=some j)): ∀j u,j≠12→killGH j≠12→GH bt kk Bz N QK vC tC j u w→GH bt kk Bz N QK vC tC j u w'
 |0,u,_,_,h=>h
 |1,u,_,_,h=>h
 |2,u,_,_,h=>h
 |3,u,_,_,h=>h
 |4,u,_,_,h=>h
 |5,u,_,_,⟨b,k,h1,h2,h3⟩=>⟨b,k,h1,h2,hO.blk hc h3⟩
 |6,u,_,_,h=>h
 |7,u,_,_,h=>h
 |8,u,_,_,h=>h
 |9,u,_,_,⟨kt,h⟩=>⟨kt,h.own hO hc⟩
 |10,u,_,_,⟨s,hs,K,kt,h1,h2⟩=>⟨s,hs,K,kt,h1,h2.own hO hc⟩
 |11,u,_,hk,h=>absurd rfl hk
 |12,u,h13,_,h=>absurd rfl h13
 |_+13,u,_,_,h=>trivial
def lUl:List (List UInt8):= [[117,108],[111,108]]
theorem lUl_nm: ∀x∈lUl,x∈lNm:=by decide
def nLi:List UInt8:= [108,105]
def nBq:List UInt8:= [98,108,111,99,107,113,117,111,116,101]
theorem rb_of {w:World} {b:Nat} {l:List UInt8} (h:Blk w b 5 (cellsB l)):RB w (.slice (some ⟨b,0,none⟩) l.length l.length) l:=by
 refine ⟨_,_,rfl,Nat.le_refl _,fun hl=>⟨b,0,rfl,fun i hi=> ?_⟩⟩
 rw [Nat.zero_add,h.cell i]
 exact cellsB_at l i hi
theorem blZ_div: ∀d,1100≤blZ d / 3
 |0=>by decide
 |d+1=>by have:=blZ_ge d;simp only [blZ];omega
theorem blocks_body {lv d:Nat} (hl:lv≤50) (hd100:blZ d≤1000000000) (hrec:lv≤3→ ∃d',d=d'+1∧BlkC (lv+1) d'∧ItemC (lv+1) d'∧ItemC (lv+2) d'):BlkC lv d:=by
 intro w B bt li hT0 hli
 subst hli
 have hbtlt:=hT0.lt
 have hbtge:=hT0.ge
 refine zCz 116 Tryz.func19 ?_
 refine zz ?_
 refine zCl rfl (next_calls hT0 3 (by decide) (by decide) rfl) ?_
 rintro _ w1 ⟨⟨kn,hkn,rfl⟩,hT1,hC1⟩
 refine ⟨_,rfl,?_⟩
 have hE:=blZ_div d
 refine zz ?_
 refine zc_loopW (ι:=Nat×Value×AT) (fun q u=> [(0,.pointer (some ⟨bt,0,none⟩)),(1,.int .i64 lv),(5,q.2.1),(6,.int .i64 (1+(kn:Int))),(7,.int .i64 q.1)])
  (fun q u=>q.1≤1+kn∧Out w.heap.size u q.2.1 q.2.2∧q.2.2.okc tBlk (4*d+10)∧q.2.2.len=q.1∧q.2.2.size+(1+kn - q.1)*(blZ d / 3)≤(1+kn)*(blZ d / 3)∧Tp u B bt∧Chg w u (· =bt)) (fun q u=>1+kn - q.1) (0,nS,.nil) ⟨Nat.zero_le _,Out.nil,AT.okc_nil _ _,rfl,by simp [AT.size],hT1,hC1⟩ ?_ ?_
 ·exact ⟨rfl,rfl,rfl,rfl,rfl,trivial⟩
 rintro ⟨i,vo,t⟩ u ⟨hi,hO,hok,hlen,hsz,hT,hC⟩
 dsimp only at hi hO hok hlen hsz hT hC ⊢
 have hws:=hC.size
 by_cases hlt:i<1+kn
 rotate_left
 ·obtain rfl:i=1+kn:=by omega
  refine zz ?_
  have hz:(1+kn)*(blZ d / 3)≤blZ d:=by
   have h1:=Nat.mul_le_mul_right (blZ d / 3) (show 1+kn≤3 by omega)
   have h2:=Nat.mul_div_le (blZ d) 3
   omega
  exact zk_ret1 (.inr rfl) rfl rfl ⟨_,t,rfl,hO,hok,by omega,hT,hC,by omega⟩
 obtain ⟨A0,c0,hvo,hc0⟩:=hO.form
 subst hvo
 have hlt3:t.len≤3:=by omega
 refine zz ?_
 refine zCl rfl (next_calls hT 12 (by decide) (by decide) rfl) ?_
 rintro _ u1 ⟨⟨k0,hk0,rfl⟩,hTa,hXa⟩
 refine ⟨_,rfl,?_⟩
 have hOa:=hO.tp hT hXa
 have hCa:Chg w u1 (· =bt):=hC.trans hXa (fun _ _ h=>h)
 have hsa:=hCa.size
 refine zP rfl (zN (zK ?_))
 refine zc_midX (ι:=Nat) (fun k u'=>u'=u1∧k<12∧(3<lv→k<6)) (fun k=> [(0,.pointer (some ⟨bt,0,none⟩)),(1,.int .i64 lv),(5,.slice A0 t.len c0),(6,.int .i64 (1+(kn:Int))),(7,.int .i64 i),(8,.int .i64 k)]) ?_ ?_
 ·by_cases h3:3<lv
  ·refine zz ?_
   refine z_rem (want_L rfl) (by decide) rfl rfl (by decide) ?_
   have e6:(k0:Int).tmod 6=((k0%6:Nat):Int):=by rw [Int.tmod_eq_emod_of_nonneg (by omega)];omega
   refine zP rfl (zN ?_)
   exact zk_midX (k0%6) ⟨rfl,by omega,fun _=>by omega⟩ ⟨rfl,rfl,rfl,rfl,rfl,get_int rfl e6,trivial⟩
  ·refine zz ?_
   exact zk_midX k0 ⟨rfl,hk0,fun h=>absurd h h3⟩ ⟨rfl,rfl,rfl,rfl,rfl,rfl,trivial⟩
 rintro k uq ⟨huq,hk12,hk6⟩
 obtain rfl:=huq.symm
 refine zc_midBX (ι:=Value×AT) (fun q u'=>Out w.heap.size u' q.1 q.2∧q.2.okc tBlk (4*d+10)∧q.2.len=i+1∧q.2.size≤t.size+blZ d / 3∧Tp u' B bt∧Chg w u' (· =bt)) (fun q=> [(0,.pointer (some ⟨bt,0,none⟩)),(1,.int .i64 lv),(5,q.1),(6,.int .i64 (1+(kn:Int))),(7,.int .i64 i)]) ?_ ?_
 rotate_left
 ·rintro ⟨vo',t'⟩ u' ⟨g1,g2,g3,g4,g5,g6⟩
  dsimp only at g1 g2 g3 g4 g5 g6 ⊢
  refine zz ?_
  refine zk_loopW (i+1,vo',t') ⟨by omega,g1,g2,g3,?_,g5,g6⟩ (by show 1+kn - (i+1)<1+kn - i;omega) ⟨rfl,rfl,rfl,rfl,get_int rfl (by simp),trivial⟩
  dsimp only
  obtain ⟨m,hm⟩: ∃m,1+kn - i=m+1:=⟨1+kn - i - 1,by omega⟩
  rw [hm,Nat.add_mul,Nat.one_mul] at hsz
  rw [show 1+kn - (i+1)=m by omega];omega
 by_cases hk4:k<4
 ·refine zz ?_
  refine zc_drawK 10 (GP bt k w.heap.size 1093 AT.okf (.slice A0 t.len c0) t) killGP (fun b z'=>Tp z' B bt∧Chg w z' (· =bt)∧w.heap.size≤z'.heap.size∧(b.getD 9 false=false→Out w.heap.size z' (.slice A0 t.len c0) t))
   [(0,.pointer (some ⟨bt,0,none⟩)),(1,.int .i64 lv),(5,.slice A0 t.len c0),(6,.int .i64 (1+(kn:Int))),(7,.int .i64 i),(8,.int .i64 k)] (by rfl) (by kernel_rfl) (by kernel_rfl) ⟨rfl,rfl,rfl,rfl,rfl,rfl,trivial⟩ (fun z' hz _=>⟨hTa.no hz,hCa.no hz,by have:=hz.size;omega,fun _=>hOa.no hz⟩) ?_ (by decide) (fun _=>⟨by kernel_rfl,by kernel_rfl⟩) ?_
  ·intro i' hi' b a y hbsz hbi hcl hL
   obtain ⟨hok',⟨hTy,hCy,hszy,hOut⟩,hd⟩:=hL
   have hstay: ∀{j:Nat},j≠9→(b.setIfInBounds j true).getD 9 false=false→b.getD 9 false=false:=fun hj h=>by rwa [gd_ne hj] at h
   have hnew: ∀{y':World},Chg y y' No→ ∀{j:Nat},j≠9→(Tp y' B bt∧Chg w y' (· =bt)∧w.heap.size≤y'.heap.size∧((b.setIfInBounds j true).getD 9 false=false→Out w.heap.size y' (.slice A0 t.len c0) t)):=fun hy j hj=>⟨hTy.no hy,hCy.no hy,by have:=hy.size;omega,fun h=>(hOut (hstay hj h)).no hy⟩
   have hnx: ∀{y':World},Tp y' B bt→Chg y y' (· =bt)→ ∀{j:Nat},j≠9→(Tp y' B bt∧Chg w y' (· =bt)∧w.heap.size≤y'.heap.size∧((b.setIfInBounds j true).getD 9 false=false→Out w.heap.size y' (.slice A0 t.len c0) t)):=fun hT' hy j hj=>⟨hT',hCy.trans hy (fun _ _ h=>h),by have:=hy.size;omega,fun h=>(hOut (hstay hj h)).tp hTy hy⟩
   have hsame:=fun {j:Nat} (hj:j≠9)=>hnew (Chg.refl y No) hj
   have g: ∀j,waits _ i' j=true→(killGP j=i'∨10≤killGP j)→ ∀dj,dstOf _ j=some dj→ ∃v,a.tmps[dj]? =some v∧GP bt k w.heap.size 1093 AT.okf (.slice A0 t.len c0) t j v y:=fun j hw hk dj hdj=>by
    obtain ⟨v,h1,h2⟩:=hd j hw dj hdj
    exact ⟨v,h1,h2 (fun hh=>hh hk)⟩
   match i',hi' with
   |0,_=>exact ⟨35,rfl,wo_pure rfl hok' rfl ⟨_,rfl,rfl,hsame (by decide),fun _ _ _ _ h=>h⟩⟩
   |1,_=>
    have hN:=New.mk' y 9 (strs lP)
    exact ⟨36,rfl,wo_run rfl (want_L rfl) rfl hok' (run_bsE (strs lP) rfl (by decide) (by decide) (by kernel_rfl)) ⟨_,rfl,⟨_,rfl,hN.blk⟩,hnew hN.chg (by decide),fun j u _ _ h=>GP.no hTy hN.chg j u h⟩⟩
   |2,_=>exact ⟨37,rfl,wo_pure rfl hok' rfl ⟨_,rfl,rfl,hsame (by decide),fun _ _ _ _ h=>h⟩⟩
   |3,_=>
    obtain ⟨v0,h0,bq,rfl,hb⟩:=g 1 (by kernel_rfl) (by decide) _ rfl
    obtain ⟨v2,h2,rfl⟩:=g 2 (by kernel_rfl) (by decide) _ rfl
    exact ⟨38,rfl,wo_run rfl (want_L rfl) rfl ((hok'.cons h0).cons h2) (r_ia rfl rfl (by omega) (by omega)) ⟨_,rfl,⟨bq,by simp,hb⟩,hsame (by decide),fun _ _ _ _ h=>h⟩⟩
   |4,_=>
    obtain ⟨v3,h3,bq,rfl,hb⟩:=g 3 (by kernel_rfl) (by decide) _ rfl
    exact ⟨39,rfl,wo_run rfl (want_L rfl) rfl (hok'.cons h3) (r_load1 rfl ((hb.cell k).trans (strs_get lP k hk4))) ⟨_,rfl,⟨_,getD_mem lP k hk4,rfl⟩,hsame (by decide),fun _ _ _ _ h=>h⟩⟩
   |5,_=>exact ⟨40,rfl,wo_pure rfl hok' rfl ⟨_,rfl,rfl,hsame (by decide),fun _ _ _ _ h=>h⟩⟩
   |6,_=>
    obtain ⟨v7,h7,rfl⟩:=g 5 (by kernel_rfl) (by decide) _ rfl
    have hb13:b.getD 9 false=false:=by
     rcases h13:b.getD 9 false with _|_
     ·rfl
     ·skip
      have e0:=hcl 9 8 h13 (by kernel_rfl)
      have e1:=hcl 8 7 e0 (by kernel_rfl)
      have e2:=hcl 7 6 e1 (by kernel_rfl)
      rw [hbi] at e2;cases e2
    have hO:=hOut hb13
    refine ⟨41,rfl,wo_call rfl (want_L rfl) rfl (hok'.cons h7) rfl (full_calls hTy) ?_⟩
    rintro _ y' ⟨vK,kt,rfl,hK,hkok,hks,hT',hC'⟩
    exact ⟨_,rfl,_,rfl,⟨kt,TreeOk.under hO (by omega) (Nat.le_refl _) hK.tree,hkok,hks⟩,hnx hT' hC' (by decide),fun j u _ _ h=>GP.tp hTy hC' j u h⟩
   |7,_=>
    obtain ⟨v6,h6,s,hs,rfl⟩:=g 4 (by kernel_rfl) (by decide) _ rfl
    obtain ⟨v10,h10,kt,hk⟩:=g 6 (by kernel_rfl) (by decide) _ rfl
    obtain ⟨AK,cK,rfl,_⟩:=hk.form
    exact ⟨42,rfl,wo_run rfl (want_L rfl) rfl ((hok'.cons h6).cons h10) (r_build' (cells:= #[.string (bs s),nS,.string (bs []),nS,.slice AK kt.len cK]) rfl (by kernel_rfl)) ⟨_,rfl,⟨s,hs,_,kt,rfl,hk⟩,hsame (by decide),fun _ _ _ _ h=>h⟩⟩
   |8,_=>
    obtain ⟨v11,h11,s,hs,K,kt,rfl,hk⟩:=g 7 (by kernel_rfl) (by decide) _ rfl
    have hN:=New.mk' y 43 (encM [mE s K])
    have hrd:=RdS.art (x:=⟨s,[],[]⟩) ⟨rfl,AtS.nil _,rfl,isSl_nil⟩ hk.1 hN
    obtain ⟨AK,cK,rfl,_⟩:=hk.form
    exact ⟨43,rfl,wo_run rfl (want_L rfl) rfl (hok'.cons h11) (run_bsE (encM [mE s (.slice AK kt.len cK)]) rfl (by decide) (by decide) (by kernel_rfl)) ⟨_,rfl,⟨s,hs,_,kt,hrd,hk.tp hTy (hN.chg.mono (fun _ _ h=>h.elim))⟩,hnew hN.chg (by decide),fun j u _ _ h=>GP.no hTy hN.chg j u h⟩⟩
   |9,_=>
    obtain ⟨v1,h1,rfl⟩:=g 0 (by kernel_rfl) (by decide) _ rfl
    obtain ⟨v12,h12,s,hs,K,kt,hr12,hk⟩:=g 8 (by kernel_rfl) (by decide) _ rfl
    have hO:=hOut hbi
    refine ⟨44,rfl,wo_push rfl (want_L rfl) ((hok'.cons h1).cons h12) rfl rfl hO hr12 hk hszy (by omega) (fun v' y' hO' hC'=> ?_)⟩
    refine ⟨v',rfl,⟨s,hs,kt,hO',hk.2⟩,⟨hTy.own hO (by omega) hC',Chg.own hCy hO (Nat.le_refl _) hC',by have:=hC'.size;omega,fun h=> ?_⟩,fun j u hj hk' h=>GP.own hO hC' j u hj hk' h⟩
    have h':9<b.size:=by rw [hbsz];decide
    simp [h'] at h
  ·intro b a y hL
   obtain ⟨hok',⟨hTy,hCy,hszy,_⟩,hd⟩:=hL
   obtain ⟨v13,h13,g13⟩:=hd 9 (by decide) _ rfl
   obtain ⟨s,hs,kt,hO',hkok,hks⟩:=g13 (by decide)
   obtain ⟨A',c',rfl,hcc'⟩:=hO'.form
   rw [if_pos (by decide)]
   refine wo_pure rfl (hok'.cons h13) rfl ?_
   refine np_zk (e:=(5,.slice A' (t.snoc ⟨s,[],[]⟩ kt).len c')::(44,.slice A' (t.snoc ⟨s,[],[]⟩ kt).len c'):: [(0,.pointer (some ⟨bt,0,none⟩)),(1,.int .i64 lv),(5,.slice A0 t.len c0),(6,.int .i64 (1+(kn:Int))),(7,.int .i64 i),(8,.int .i64 k)]) ?_ ((hok'.cons h13).put 5 _ (by decide))
   refine zM (zM ?_)
   exact zk_midX (.slice A' (t.snoc ⟨s,[],[]⟩ kt).len c',t.snoc ⟨s,[],[]⟩ kt) ⟨hO',AT.okc_snoc hok (hdN (lP_nm s hs)) ((show∀a∈lP,a∈tBlk by decide) s hs) ((show∀a∈lP,a≠ [] by decide) s hs) (kids_line ((show∀a∈lP,a∈([[104,50],[104,51],[104,52],[104,53],[104,54],[112],[112,114,101]]:List (List UInt8)) by decide) s hs) hkok.2.2.1) hkok.1 hkok.2.1 (by have:=hkok.2.2.2;omega),by rw [AT.snoc_len,hlen],by rw [AT.snoc_size];omega,hTy,hCy⟩ ⟨rfl,rfl,rfl,rfl,rfl,trivial⟩
 by_cases hk44:k=4
 ·subst hk44
  refine zz ?_
  refine z_buildE #[.string (bs nHr),nS,.string (bs []),nS,nS] (want_L rfl) (by decide) rfl (by kernel_rfl) ?_
  refine z_bsE (encM [mE nHr nS]) (want_L rfl) (by decide) rfl (by decide) (by decide) (by kernel_rfl) (fun p1 pb hP=> ?_)
  refine z_push (h:=⟨nHr,[],[]⟩) (k:= .nil) (m:=mE nHr nS) (want_L rfl) (by decide) rfl rfl hOa ⟨rfl,AtS.nil _,rfl,isSl_nil⟩ TreeOk.nil (by have:=hCa.size;omega) hP (by omega) (fun p2 q2 hP2 hPC=> ?_)
  have hPT:=hTa.own hOa (by omega) hPC
  have hPW:=Chg.own hCa hOa (Nat.le_refl _) hPC
  obtain ⟨pA,pc,hpv,_⟩:=hP2.form
  subst hpv
  refine zz ?_
  exact zk_midX (.slice pA _ pc,t.snoc ⟨nHr,[],[]⟩ .nil) ⟨hP2,AT.okc_snoc hok (hdN (by decide)) (by decide:nHr∈tBlk) (by decide:nHr≠ []) (kids_leaf (by decide) rfl) trivial trivial (by show 1+0≤_;omega),by rw [AT.snoc_len,hlen],by rw [AT.snoc_size];simp only [AT.size];omega,hPT,hPW⟩ ⟨rfl,rfl,rfl,rfl,rfl,trivial⟩
 by_cases hk5:k=5
 ·subst hk5
  refine zz ?_
  refine zc_drawK 13 (GH bt 0 w.heap.size 1093 AT.okf (.slice A0 t.len c0) t) killGH (fun b z'=>Tp z' B bt∧Chg w z' (· =bt)∧w.heap.size≤z'.heap.size∧(b.getD 12 false=false→Out w.heap.size z' (.slice A0 t.len c0) t))
   [(0,.pointer (some ⟨bt,0,none⟩)),(1,.int .i64 lv),(5,.slice A0 t.len c0),(6,.int .i64 (1+(kn:Int))),(7,.int .i64 i),(8,.int .i64 ((5:Nat):Int))] (by rfl) (by kernel_rfl) (by kernel_rfl) ⟨rfl,rfl,rfl,rfl,rfl,rfl,trivial⟩ (fun z' hz _=>⟨hTa.no hz,hCa.no hz,by have:=hz.size;omega,fun _=>hOa.no hz⟩) ?_ (by decide) (fun _=>⟨by kernel_rfl,by kernel_rfl⟩) ?_
  ·intro i' hi' b a y hbsz hbi hcl hL
   obtain ⟨hok',⟨hTy,hCy,hszy,hOut⟩,hd⟩:=hL
   have hstay: ∀{j:Nat},j≠12→(b.setIfInBounds j true).getD 12 false=false→b.getD 12 false=false:=fun hj h=>by rwa [gd_ne hj] at h
   have hnew: ∀{y':World},Chg y y' No→ ∀{j:Nat},j≠12→(Tp y' B bt∧Chg w y' (· =bt)∧w.heap.size≤y'.heap.size∧((b.setIfInBounds j true).getD 12 false=false→Out w.heap.size y' (.slice A0 t.len c0) t)):=fun hy j hj=>⟨hTy.no hy,hCy.no hy,by have:=hy.size;omega,fun h=>(hOut (hstay hj h)).no hy⟩
   have hnx: ∀{y':World},Tp y' B bt→Chg y y' (· =bt)→ ∀{j:Nat},j≠12→(Tp y' B bt∧Chg w y' (· =bt)∧w.heap.size≤y'.heap.size∧((b.setIfInBounds j true).getD 12 false=false→Out w.heap.size y' (.slice A0 t.len c0) t)):=fun hT' hy j hj=>⟨hT',hCy.trans hy (fun _ _ h=>h),by have:=hy.size;omega,fun h=>(hOut (hstay hj h)).tp hTy hy⟩
   have hsame:=fun {j:Nat} (hj:j≠12)=>hnew (Chg.refl y No) hj
   have g: ∀j,waits _ i' j=true→(killGH j=i'∨13≤killGH j)→ ∀dj,dstOf _ j=some dj→ ∃v,a.tmps[dj]? =some v∧GH bt 0 w.heap.size 1093 AT.okf (.slice A0 t.len c0) t j v y:=fun j hw hk dj hdj=>by
    obtain ⟨v,h1,h2⟩:=hd j hw dj hdj
    exact ⟨v,h1,h2 (fun hh=>hh hk)⟩
   match i',hi' with
   |0,_=>exact ⟨55,rfl,wo_pure rfl hok' rfl ⟨_,rfl,rfl,hsame (by decide),fun _ _ _ _ h=>h⟩⟩
   |1,_=>exact ⟨56,rfl,wo_pure rfl hok' rfl ⟨_,rfl,rfl,hsame (by decide),fun _ _ _ _ h=>h⟩⟩
   |2,_=>
    obtain ⟨v1,h1,rfl⟩:=g 1 (by kernel_rfl) (by decide) _ rfl
    refine ⟨57,rfl,wo_call rfl (want_L rfl) rfl (hok'.cons h1) rfl (next_calls hTy 5 (by decide) (by decide) rfl) ?_⟩
    rintro _ y' ⟨⟨k,hk,rfl⟩,hT',hC'⟩
    exact ⟨_,rfl,_,rfl,⟨k,hk,rfl⟩,hnx hT' hC' (by decide),fun j u _ _ h=>GH.tp hTy hC' j u h⟩
   |3,_=>
    obtain ⟨v1,h1,k,hk,rfl⟩:=g 2 (by kernel_rfl) (by decide) _ rfl
    exact ⟨58,rfl,wo_run rfl (want_L rfl) rfl (hok'.cons h1) (r_add rfl rfl (by omega) (by omega)) ⟨_,rfl,⟨k,hk,rfl⟩,hsame (by decide),fun _ _ _ _ h=>h⟩⟩
   |4,_=>
    obtain ⟨v1,h1,k,hk,rfl⟩:=g 3 (by kernel_rfl) (by decide) _ rfl
    exact ⟨59,rfl,wo_run rfl (want_L rfl) rfl (hok'.cons h1) (r_convI (j:=(UInt8.ofNat (50+k)).toNat) rfl (by rcases (by omega:k=0∨k=1∨k=2∨k=3∨k=4) with rfl|rfl|rfl|rfl|rfl<;>rfl)) ⟨_,rfl,⟨k,hk,rfl⟩,hsame (by decide),fun _ _ _ _ h=>h⟩⟩
   |5,_=>
    obtain ⟨v1,h1,k,hk,rfl⟩:=g 4 (by kernel_rfl) (by decide) _ rfl
    have hN:=New.mk' y 5 (cellsB [UInt8.ofNat (50+k)])
    exact ⟨60,rfl,wo_run rfl (want_L rfl) rfl (hok'.cons h1) (run_bs1 rfl (by rfl) (by rfl) (by decide) (by decide)) ⟨_,rfl,⟨_,k,hk,rfl,hN.blk⟩,hnew hN.chg (by decide),fun j u _ _ h=>GH.no hTy hN.chg j u h⟩⟩
   |6,_=>
    obtain ⟨v1,h1,bq,k,hk,rfl,hb⟩:=g 5 (by kernel_rfl) (by decide) _ rfl
    exact ⟨61,rfl,wo_run rfl (want_L rfl) rfl (hok'.cons h1) (r_convBS (l:= [UInt8.ofNat (50+k)]) rfl (rb_of hb)) ⟨_,rfl,⟨k,hk,rfl⟩,hsame (by decide),fun _ _ _ _ h=>h⟩⟩
   |7,_=>
    obtain ⟨v1,h1,k,hk,rfl⟩:=g 6 (by kernel_rfl) (by decide) _ rfl
    exact ⟨62,rfl,wo_run rfl (want_L rfl) rfl (hok'.cons h1) (r_catL (l:= [104]) (r:= [UInt8.ofNat (50+k)]) rfl rfl (by simp only [List.length_cons,List.length_nil];omega)) ⟨_,rfl,⟨_,by rcases (by omega:k=0∨k=1∨k=2∨k=3∨k=4) with rfl|rfl|rfl|rfl|rfl<;>decide,rfl⟩,hsame (by decide),fun _ _ _ _ h=>h⟩⟩
   |8,_=>exact ⟨63,rfl,wo_pure rfl hok' rfl ⟨_,rfl,rfl,hsame (by decide),fun _ _ _ _ h=>h⟩⟩
   |9,_=>
    obtain ⟨v7,h7,rfl⟩:=g 8 (by kernel_rfl) (by decide) _ rfl
    have hb13:b.getD 12 false=false:=by
     rcases h13:b.getD 12 false with _|_
     ·rfl
     ·skip
      have e0:=hcl 12 11 h13 (by kernel_rfl)
      have e1:=hcl 11 10 e0 (by kernel_rfl)
      have e2:=hcl 10 9 e1 (by kernel_rfl)
      rw [hbi] at e2;cases e2
    have hO:=hOut hb13
    refine ⟨64,rfl,wo_call rfl (want_L rfl) rfl (hok'.cons h7) rfl (full_calls hTy) ?_⟩
    rintro _ y' ⟨vK,kt,rfl,hK,hkok,hks,hT',hC'⟩
    exact ⟨_,rfl,_,rfl,⟨kt,TreeOk.under hO (by omega) (Nat.le_refl _) hK.tree,hkok,hks⟩,hnx hT' hC' (by decide),fun j u _ _ h=>GH.tp hTy hC' j u h⟩
   |10,_=>
    obtain ⟨v6,h6,s,hs,rfl⟩:=g 7 (by kernel_rfl) (by decide) _ rfl
    obtain ⟨v10,h10,kt,hk⟩:=g 9 (by kernel_rfl) (by decide) _ rfl
    obtain ⟨AK,cK,rfl,_⟩:=hk.form
    exact ⟨65,rfl,wo_run rfl (want_L rfl) rfl ((hok'.cons h6).cons h10) (r_build' (cells:= #[.string (bs s),nS,.string (bs []),nS,.slice AK kt.len cK]) rfl (by kernel_rfl)) ⟨_,rfl,⟨s,hs,_,kt,rfl,hk⟩,hsame (by decide),fun _ _ _ _ h=>h⟩⟩
   |11,_=>
    obtain ⟨v11,h11,s,hs,K,kt,rfl,hk⟩:=g 10 (by kernel_rfl) (by decide) _ rfl
    have hN:=New.mk' y 43 (encM [mE s K])
    have hrd:=RdS.art (x:=⟨s,[],[]⟩) ⟨rfl,AtS.nil _,rfl,isSl_nil⟩ hk.1 hN
    obtain ⟨AK,cK,rfl,_⟩:=hk.form
    exact ⟨66,rfl,wo_run rfl (want_L rfl) rfl (hok'.cons h11) (run_bsE (encM [mE s (.slice AK kt.len cK)]) rfl (by decide) (by decide) (by kernel_rfl)) ⟨_,rfl,⟨s,hs,_,kt,hrd,hk.tp hTy (hN.chg.mono (fun _ _ h=>h.elim))⟩,hnew hN.chg (by decide),fun j u _ _ h=>GH.no hTy hN.chg j u h⟩⟩
   |12,_=>
    obtain ⟨v1,h1,rfl⟩:=g 0 (by kernel_rfl) (by decide) _ rfl
    obtain ⟨v12,h12,s,hs,K,kt,hr12,hk⟩:=g 11 (by kernel_rfl) (by decide) _ rfl
    have hO:=hOut hbi
    refine ⟨67,rfl,wo_push rfl (want_L rfl) ((hok'.cons h1).cons h12) rfl rfl hO hr12 hk hszy (by omega) (fun v' y' hO' hC'=> ?_)⟩
    refine ⟨v',rfl,⟨s,hs,kt,hO',hk.2⟩,⟨hTy.own hO (by omega) hC',Chg.own hCy hO (Nat.le_refl _) hC',by have:=hC'.size;omega,fun h=> ?_⟩,fun j u hj hk' h=>GH.own hO hC' j u hj hk' h⟩
    have h':12<b.size:=by rw [hbsz];decide
    simp [h'] at h
  ·intro b a y hL
   obtain ⟨hok',⟨hTy,hCy,hszy,_⟩,hd⟩:=hL
   obtain ⟨v13,h13,g13⟩:=hd 12 (by decide) _ rfl
   obtain ⟨s,hs,kt,hO',hkok,hks⟩:=g13 (by decide)
   obtain ⟨A',c',rfl,hcc'⟩:=hO'.form
   rw [if_pos (by decide)]
   refine wo_pure rfl (hok'.cons h13) rfl ?_
   refine np_zk (e:=(5,.slice A' (t.snoc ⟨s,[],[]⟩ kt).len c')::(67,.slice A' (t.snoc ⟨s,[],[]⟩ kt).len c'):: [(0,.pointer (some ⟨bt,0,none⟩)),(1,.int .i64 lv),(5,.slice A0 t.len c0),(6,.int .i64 (1+(kn:Int))),(7,.int .i64 i),(8,.int .i64 ((5:Nat):Int))]) ?_ ((hok'.cons h13).put 5 _ (by decide))
   refine zM (zM ?_)
   exact zk_midX (.slice A' (t.snoc ⟨s,[],[]⟩ kt).len c',t.snoc ⟨s,[],[]⟩ kt) ⟨hO',AT.okc_snoc hok (hdN (lH_nm s hs)) ((show∀a∈lH,a∈tBlk by decide) s hs) ((show∀a∈lH,a≠ [] by decide) s hs) (kids_line ((show∀a∈lH,a∈([[104,50],[104,51],[104,52],[104,53],[104,54],[112],[112,114,101]]:List (List UInt8)) by decide) s hs) hkok.2.2.1) hkok.1 hkok.2.1 (by have:=hkok.2.2.2;omega),by rw [AT.snoc_len,hlen],by rw [AT.snoc_size];omega,hTy,hCy⟩ ⟨rfl,rfl,rfl,rfl,rfl,trivial⟩
 obtain ⟨d',rfl,hB1,hI1,hI2⟩:=hrec (by omega)
 have hz4:=blZ_ge d'
 have hzd:blZ (d'+1)=13*blZ d':=rfl
 by_cases hk9:k<9
 ·refine zz ?_
  refine z_bsE (strs lUl) (want_L rfl) (by decide) rfl (by decide) (by decide) (by kernel_rfl) (fun y1 c1 hN1=> ?_)
  refine zP rfl ?_
  refine z_rem (want_L rfl) (by decide) rfl rfl (by decide) ?_
  have e2:(k:Int).tmod 2=((k%2:Nat):Int):=by rw [Int.tmod_eq_emod_of_nonneg (by omega)];omega
  rw [e2]
  have hk2:k%2<2:=by omega
  have hcl:=(hN1.blk.cell (k%2)).trans (strs_get lUl (k%2) hk2)
  have hml:=lUl_nm _ (getD_mem lUl (k%2) hk2)
  have hmu:=getD_mem lUl (k%2) hk2
  generalize lUl.getD (k%2) []=nm at hcl hml hmu
  refine zIa rfl rfl (zL1 rfl (cell_at hcl (by omega)) ?_)
  refine z_buildE #[.string (bs nm),nS,.string (bs []),nS,nS] (want_L rfl) (by decide) rfl (by kernel_rfl) ?_
  refine zAl (fun y2 b9 hN2=> ?_)
  have hb92:Blk y2 b9 43 [.string ⟨#[]⟩,nS,.string ⟨#[]⟩,nS,nS]:=hN2.blk
  refine z_store (want_L rfl) rfl rfl rfl (by assumption) (by first|exact Nat.le_refl _|simp [Value.cells]) (by simp [Value.cells,Value.oneCell']) (fun y3 hU3=> ?_)
  have hb93:Blk y3 b9 43 [.string (bs nm),nS,.string (bs []),nS,nS]:=hU3.blk
  have hX3:Chg u1 y3 No:=hN1.chg.no (hN2.chg.upd hU3 (hN2.ge (Chg.refl _ No)))
  have hb9ge:u1.heap.size≤b9:=by have:=hN2.at_;have:=hN1.chg.size;omega
  have hb9lt:b9<y3.heap.size:=hb93.lt
  have hs3:=hX3.size
  refine zz ?_
  refine zc_loopW (ι:=Nat×Value×AT) (fun q z=> [(0,.pointer (some ⟨bt,0,none⟩)),(1,.int .i64 lv),(5,.slice A0 t.len c0),(6,.int .i64 (1+(kn:Int))),(7,.int .i64 i),(8,.int .i64 k),(9,.pointer (some ⟨b9,0,none⟩)),(10,.int .i64 q.1)])
   (fun q z=>q.1≤3∧Out y3.heap.size z q.2.1 q.2.2∧q.2.2.okc [tLi] (4*d'+11)∧q.2.2.len=q.1∧q.2.2.size≤q.1*(1+blZ d')∧Blk z b9 43 [.string (bs nm),nS,.string (bs []),nS,q.2.1]∧Tp z B bt∧Chg u1 z (· =bt)∧y3.heap.size≤z.heap.size) (fun q z=>4 - q.1) (0,nS,.nil)
   ⟨by decide,Out.nil,AT.okc_nil _ _,rfl,by simp [AT.size],hb93,hTa.no hX3,hX3.mono (fun _ _ h=>h.elim),Nat.le_refl _⟩ ?_ ?_
  ·exact ⟨rfl,rfl,rfl,rfl,rfl,rfl,rfl,rfl,trivial⟩
  rintro ⟨j,vE,tE⟩ z ⟨hj,hOE,hokE,hlenE,hszE,hb9z,hTz,hCz,hsz3⟩
  dsimp only at hj hOE hokE hlenE hszE hb9z hTz hCz hsz3 ⊢
  obtain ⟨AE,cE,hvE,hcE⟩:=hOE.form
  subst hvE
  refine zz ?_
  refine zCl rfl (next_calls hTz 3 (by decide) (by decide) rfl) ?_
  rintro _ z1 ⟨⟨nj,hnj,rfl⟩,hTz1,hXz1⟩
  refine ⟨_,rfl,?_⟩
  have hOE1:=hOE.tp hTz hXz1
  have hb9z1:=keepT hTz hXz1 _ _ _ (by decide) hb9z
  have hCz1:Chg u1 z1 (· =bt):=hCz.trans hXz1 (fun _ _ h=>h)
  have hsz1:=hXz1.size
  have hownE: ∀k,(Value.slice AE tE.len cE).ownBlock=some k→y3.heap.size≤k:=fun k hk=>by obtain ⟨ms,_,g2,_⟩:=hOE1;exact g2 k hk
  by_cases hle:j≤nj
  ·refine zz ?_
   refine zc_draw [10] (fun w'=>Blk w' b9 43 [.string (bs nm),nS,.string (bs []),nS,.slice AE tE.len cE]) (.take 0 (.take 1 (.take 2 (.take 3 (.take 4 (.all1 5 (.take 6 (.all1 7 (.all1 8 (.take 9 (.last 10))))))))))) (by rfl) (by kernel_rfl) (by kernel_rfl) (fun z2 hZ2 _=>⟨?_,?_⟩)
   ·exact hb9z1.no hZ2
   have hb9z2:=hb9z1.no hZ2
   have hTz2:=hTz1.no hZ2
   have hOE2:=hOE1.no hZ2
   have hCz2:Chg u1 z2 (· =bt):=hCz1.no hZ2
   have hsz2:=hZ2.size
   refine zz ?_
   refine zs_call rfl (want_L rfl) rfl (by decide) rfl (hI1 (li:=lv+1) hTz2 (by omega)) ?_
   rintro _ z3 ⟨vK,kt,rfl,hK,hkok,hks,hTz3,hXz3⟩
   have hb9z3:=keepT hTz2 hXz3 _ _ _ (by decide) hb9z2
   refine ⟨_,rfl,hb9z3,?_⟩
   have hOE3:=hOE2.tp hTz2 hXz3
   have hCz3:Chg u1 z3 (· =bt):=hCz2.trans hXz3 (fun _ _ h=>h)
   have hsz3':=hXz3.size
   obtain ⟨AK,cK,rfl,_⟩:=hK.form
   have hk3:KidOk z3 y3.heap.size (blZ d') (AT.oki (4*d'+10)) (.slice AE tE.len cE) (.slice AK kt.len cK) kt:=⟨TreeOk.under hOE2 (by omega) (Nat.le_refl _) hK.tree,hkok,hks⟩
   refine zRd rfl rfl (fun _ hS=>r_build' (cells:= #[.string (bs nLi),nS,.string (bs []),nS,.slice AK kt.len cK]) rfl (by kernel_rfl)) ?_
   refine zs_bsE (encM [mE nLi (.slice AK kt.len cK)]) rfl (want_L rfl) (by decide) rfl (by decide) (by decide) (by kernel_rfl) (fun z4 cb hM4=> ?_)
   have hb9z4:=hb9z3.no hM4.chg
   refine ⟨hb9z4,?_⟩
   have hr4:=RdS.art (x:=⟨nLi,[],[]⟩) ⟨rfl,AtS.nil _,rfl,isSl_nil⟩ hk3.1 hM4
   have hlE:=Out.len
   have hOE4:=hOE3.no hM4.chg
   have hTz4:=hTz3.no hM4.chg
   have hCz4:Chg u1 z4 (· =bt):=hCz3.no hM4.chg
   have hsz4:=hM4.chg.size
   have hOE3':=hOE3
   obtain ⟨ms,g1,g2,g3⟩:=hOE3'
   have hms:=Out.len _ g3
   refine zs_appendO rfl (by rfl) (by decide) (want_L rfl) (by decide) rfl rfl (g1.no hM4.chg) hr4 (by omega) (by omega) (fun v5 z5 hO5 hX5 hr5=> ?_)
   have hP5:=Out.push g1 g2 g3 (m:=mE nLi (.slice AK kt.len cK)) (x:=⟨nLi,[],[]⟩) ⟨rfl,AtS.nil _,rfl,isSl_nil⟩ hk3.1 (by omega) hM4.chg hO5 hX5 hr5
   have hb9z5:=hb9z4.chg hX5 (fun he=>by have:=hownE _ he;omega)
   refine ⟨hb9z5,?_⟩
   have hTz5:=hTz4.own hOE4 (by omega) hX5
   have hCz5:=Chg.own hCz4 hOE4 (by omega) hX5
   have hsz5:=hX5.size
   obtain ⟨A5,c5,rfl,_⟩:=hP5.form
   refine zRd rfl rfl (fun _ hS=>r_fa rfl) ?_
   refine zs_storeL rfl (want_L rfl) rfl rfl rfl (by assumption) (by first|exact Nat.le_refl _|simp [Value.cells]) (by simp [Value.cells,Value.oneCell']) (fun z6 hU6=> ?_)
   have hb9z6:Blk z6 b9 43 [.string (bs nm),nS,.string (bs []),nS,.slice A5 (tE.snoc ⟨nLi,[],[]⟩ kt).len c5]:=hU6.blk
   have hO6:Out y3.heap.size z6 (.slice A5 (tE.snoc ⟨nLi,[],[]⟩ kt).len c5) (tE.snoc ⟨nLi,[],[]⟩ kt):=hP5.chg hU6.chg (fun b' cells _ hb' he=>by omega) (fun b' cells hb' he=>hb'.ne hb9z5 (by decide) he)
   refine zz ?_
   refine zk_loopW (j+1,.slice A5 (tE.snoc ⟨nLi,[],[]⟩ kt).len c5,tE.snoc ⟨nLi,[],[]⟩ kt) ⟨by omega,hO6,AT.okc_snoc hokE (hdN (by decide)) (by decide:nLi∈ [tLi]) (by decide:nLi≠ []) (kids_cell (by decide) hkok.2.2.1) hkok.1 hkok.2.1 (by have:=hkok.2.2.2;omega),by rw [AT.snoc_len,hlenE],?_,hb9z6,hTz5.oth hU6.chg (fun he=>by omega) (fun k _ hk=>by omega),hCz5.trans hU6.chg (fun k hk he=>by omega),by have:=hU6.chg.size;omega⟩ (by show 4 - (j+1)<4 - j;omega) ⟨rfl,rfl,rfl,rfl,rfl,rfl,rfl,get_int rfl (by simp),trivial⟩
   dsimp only
   rw [AT.snoc_size,Nat.add_mul,Nat.one_mul];omega
  ·have hszE3:tE.size≤3*(1+blZ d'):=Nat.le_trans hszE (Nat.mul_le_mul_right _ hj)
   have hOaz:=hOa.tp hTa hCz1
   have hCwz:Chg w z1 (· =bt):=hCa.trans hCz1 (fun _ _ h=>h)
   have hkE:TreeOk z1 (fun b=>w.heap.size≤b∧(Value.slice A0 t.len c0).ownBlock≠some b) (.slice AE tE.len cE) tE:=TreeOk.under hOa (by omega) (by omega) hOE1.tree
   refine zz ?_
   refine z_bsE (encM [mE nm (.slice AE tE.len cE)]) (want_L rfl) (by decide) rfl (by decide) (by decide) (by kernel_rfl) (fun p1 pb hP=> ?_)
   refine z_push (h:=⟨nm,[],[]⟩) (k:=tE) (m:=mE nm (.slice AE tE.len cE)) (want_L rfl) (by decide) rfl rfl hOaz ⟨rfl,AtS.nil _,rfl,isSl_nil⟩ hkE (by have:=hCwz.size;omega) hP (by omega) (fun p2 q2 hP2 hPC=> ?_)
   have hPT:=hTz1.own hOaz (by omega) hPC
   have hPW:=Chg.own hCwz hOaz (Nat.le_refl _) hPC
   obtain ⟨pA,pc,hpv,_⟩:=hP2.form
   subst hpv
   refine zz ?_
   exact zk_midX (.slice pA _ pc,t.snoc ⟨nm,[],[]⟩ tE) ⟨hP2,AT.okc_snoc hok (hdN hml) ((show∀a∈lUl,a∈tBlk by decide) nm hmu) ((show∀a∈lUl,a≠ [] by decide) nm hmu) (kids_lst ((show∀a∈lUl,a∈([[111,108],[117,108]]:List (List UInt8)) by decide) nm hmu) hokE.2.2.1) hokE.1 hokE.2.1 (by have:=hokE.2.2.2;omega),by rw [AT.snoc_len,hlen],by rw [AT.snoc_size];omega,hPT,hPW⟩ ⟨rfl,rfl,rfl,rfl,rfl,trivial⟩
 by_cases hk99:k=9
 ·subst hk99
  refine zz ?_
  refine zCl rfl (hB1 (li:=lv+1) hTa (by omega)) ?_
  rintro _ y1 ⟨vK,kt,rfl,hK,hkok,hks,hT1',hX1,_⟩
  refine ⟨_,rfl,?_⟩
  obtain ⟨AK,cK,rfl,_⟩:=hK.form
  have hs1:=hX1.size
  have hO1:=hOa.tp hTa hX1
  have hC1':Chg w y1 (· =bt):=hCa.trans hX1 (fun _ _ h=>h)
  have hk1:TreeOk y1 (fun b=>w.heap.size≤b∧(Value.slice A0 t.len c0).ownBlock≠some b) (.slice AK kt.len cK) kt:=TreeOk.under hOa (by omega) (Nat.le_refl _) hK.tree
  refine z_buildE #[.string (bs nBq),nS,.string (bs []),nS,.slice AK kt.len cK] (want_L rfl) (by decide) rfl (by kernel_rfl) ?_
  refine zAl (fun y2 b9 hN2=> ?_)
  have hb92:Blk y2 b9 43 [.string ⟨#[]⟩,nS,.string ⟨#[]⟩,nS,nS]:=hN2.blk
  refine z_store (want_L rfl) rfl rfl rfl (by assumption) (by first|exact Nat.le_refl _|simp [Value.cells]) (by simp [Value.cells,Value.oneCell']) (fun y3 hU3=> ?_)
  have hb93:Blk y3 b9 43 [.string (bs nBq),nS,.string (bs []),nS,.slice AK kt.len cK]:=hU3.blk
  have hX3:Chg y1 y3 No:=hN2.chg.upd hU3 (hN2.ge (Chg.refl _ No))
  have hb9ge:y1.heap.size≤b9:=hN2.ge (Chg.refl _ No)
  have hT3:=hT1'.no hX3
  refine zz ?_
  refine zCl rfl (next_calls hT3 2 (by decide) (by decide) rfl) ?_
  rintro _ y4 ⟨⟨kc,hkc,rfl⟩,hT4,hX4⟩
  refine ⟨_,rfl,?_⟩
  have hb94:=keepT hT3 hX4 _ _ _ (by decide) hb93
  have hX14:Chg y1 y4 (· =bt):=(hX3.mono (S':=(· =bt)) (fun _ _ h=>h.elim)).trans hX4 (fun _ _ h=>h)
  by_cases hkc0:kc=0
  ·subst hkc0
   refine zz ?_
   refine z_buildE #[.string (bs [99,105,116,101]),.string (bs sCite)] (want_L rfl) (by decide) rfl (by kernel_rfl) ?_
   refine z_bsE (encA [([99,105,116,101],sCite)]) (want_L rfl) (by decide) rfl (by decide) (by decide) (by kernel_rfl) (fun y5 ba hA=> ?_)
   have hA5:AtS y5 (.slice (some ⟨ba,0,none⟩) 1 1) [([99,105,116,101],sCite)]:=RdS.new hA rfl (encA_one _)
   have hb95:=hb94.no hA.chg
   have hT5:=hT4.no hA.chg
   refine zfa rfl ?_
   refine z_store (want_L rfl) rfl rfl rfl (by assumption) (by first|exact Nat.le_refl _|simp [Value.cells]) (by simp [Value.cells,Value.oneCell']) (fun y6 hU6=> ?_)
   have hb96:Blk y6 b9 43 [.string (bs nBq),.slice (some ⟨ba,0,none⟩) 1 1,.string (bs []),nS,.slice AK kt.len cK]:=hU6.blk
   have hX16:Chg y1 y6 (· =bt):=(hX14.no hA.chg).trans hU6.chg (fun k hk he=>by omega)
   have hO6:=hO1.tp hT1' hX16
   have hk6':=hk1.tp hT1' hX16
   have hT6:Tp y6 B bt:=hT5.oth hU6.chg (fun he=>by have:=hT1'.lt;omega) (fun k _ hk=>by have:=hT1'.lt;omega)
   have hC6:Chg w y6 (· =bt):=hC1'.trans hX16 (fun _ _ h=>h)
   have hA6:AtS y6 (.slice (some ⟨ba,0,none⟩) 1 1) [([99,105,116,101],sCite)]:=RdS.chg hA5 hU6.chg (fun b cells hb he=>hb.ne hb95 (by decide) he)
   have hdQ:HdOk ⟨nBq,[([99,105,116,101],sCite)],[]⟩:=⟨by decide,by decide,by decide,by decide⟩
   refine zz ?_
   refine z_bsE (encM [⟨nBq,.slice (some ⟨ba,0,none⟩) 1 1,[],nS,.slice AK kt.len cK⟩]) (want_L rfl) (by decide) rfl (by decide) (by decide) (by kernel_rfl) (fun p1 pb hP=> ?_)
   refine z_push (h:=⟨nBq,[([99,105,116,101],sCite)],[]⟩) (k:=kt) (m:=⟨nBq,.slice (some ⟨ba,0,none⟩) 1 1,[],nS,.slice AK kt.len cK⟩) (want_L rfl) (by decide) rfl rfl hO6 ⟨rfl,hA6,rfl,isSl_nil⟩ hk6' (by have:=hC6.size;omega) hP (by omega) (fun p2 q2 hP2 hPC=> ?_)
   have hPT:=hT6.own hO6 (by omega) hPC
   have hPW:=Chg.own hC6 hO6 (Nat.le_refl _) hPC
   obtain ⟨pA,pc,hpv,_⟩:=hP2.form
   subst hpv
   refine zz ?_
   exact zk_midX (.slice pA _ pc,t.snoc ⟨nBq,[([99,105,116,101],sCite)],[]⟩ kt) ⟨hP2,AT.okc_snoc hok hdQ (by decide:nBq∈tBlk) (by decide:nBq≠ []) (kids_bq (by decide) hkok.2.2.1) hkok.1 hkok.2.1 (by have:=hkok.2.2.2;omega),by rw [AT.snoc_len,hlen],by rw [AT.snoc_size];omega,hPT,hPW⟩ ⟨rfl,rfl,rfl,rfl,rfl,trivial⟩
  ·have hO4:=hO1.tp hT1' hX14
   have hk4':=hk1.tp hT1' hX14
   have hC4:Chg w y4 (· =bt):=hC1'.trans hX14 (fun _ _ h=>h)
   refine zz ?_
   refine z_bsE (encM [mE nBq (.slice AK kt.len cK)]) (want_L rfl) (by decide) rfl (by decide) (by decide) (by kernel_rfl) (fun p1 pb hP=> ?_)
   refine z_push (h:=⟨nBq,[],[]⟩) (k:=kt) (m:=mE nBq (.slice AK kt.len cK)) (want_L rfl) (by decide) rfl rfl hO4 ⟨rfl,AtS.nil _,rfl,isSl_nil⟩ hk4' (by have:=hC4.size;omega) hP (by omega) (fun p2 q2 hP2 hPC=> ?_)
   have hPT:=hT4.own hO4 (by omega) hPC
   have hPW:=Chg.own hC4 hO4 (Nat.le_refl _) hPC
   obtain ⟨pA,pc,hpv,_⟩:=hP2.form
   subst hpv
   refine zz ?_
   exact zk_midX (.slice pA _ pc,t.snoc ⟨nBq,[],[]⟩ kt) ⟨hP2,AT.okc_snoc hok (hdN (by decide)) (by decide:nBq∈tBlk) (by decide:nBq≠ []) (kids_bq (by decide) hkok.2.2.1) hkok.1 hkok.2.1 (by have:=hkok.2.2.2;omega),by rw [AT.snoc_len,hlen],by rw [AT.snoc_size];omega,hPT,hPW⟩ ⟨rfl,rfl,rfl,rfl,rfl,trivial⟩
 ·refine zz ?_
  refine zCl rfl (table_calls (lv:=lv) (by omega) hI2 (li:=lv) hTa rfl (by omega)) ?_
  rintro _ y1 ⟨V,la,K,kt,rfl,hAl,hl3,hla,hK,hkok,hks,hT1',hX1⟩
  refine ⟨_,rfl,?_⟩
  obtain ⟨AK,cK,rfl,_⟩:=hK.form
  obtain ⟨VA,vc,rfl,_⟩:=hAl.form
  have hO1:=hOa.tp hTa hX1
  have hC1':Chg w y1 (· =bt):=hCa.trans hX1 (fun _ _ h=>h)
  have hk1:TreeOk y1 (fun b=>w.heap.size≤b∧(Value.slice A0 t.len c0).ownBlock≠some b) (.slice AK kt.len cK) kt:=TreeOk.under hOa (by omega) (Nat.le_refl _) hK
  have hdT:HdOk ⟨nTable,la,[]⟩:=⟨(by decide:nTable∈lNm),hl3,hla,(by decide:([]:List UInt8)∈lTxs)⟩
  refine z_bsE (encM [⟨nTable,.slice VA la.length vc,[],nS,.slice AK kt.len cK⟩]) (want_L rfl) (by decide) rfl (by decide) (by decide) (by kernel_rfl) (fun p1 pb hP=> ?_)
  refine z_push (h:=⟨nTable,la,[]⟩) (k:=kt) (m:=⟨nTable,.slice VA la.length vc,[],nS,.slice AK kt.len cK⟩) (want_L rfl) (by decide) rfl rfl hO1 ⟨rfl,hAl,rfl,isSl_nil⟩ hk1 (by have:=hC1'.size;omega) hP (by omega) (fun p2 q2 hP2 hPC=> ?_)
  have hPT:=hT1'.own hO1 (by omega) hPC
  have hPW:=Chg.own hC1' hO1 (Nat.le_refl _) hPC
  obtain ⟨pA,pc,hpv,_⟩:=hP2.form
  subst hpv
  refine zz ?_
  exact zk_midX (.slice pA _ pc,t.snoc ⟨nTable,la,[]⟩ kt) ⟨hP2,AT.okc_snoc hok hdT (by decide:nTable∈tBlk) (by decide:nTable≠ []) (kids_tab (by decide:nTable∈([[116,97,98,108,101]]:List (List UInt8))) hkok.2.2.1) hkok.1 hkok.2.1 (by have:=hkok.2.2.2;omega),by rw [AT.snoc_len,hlen],by rw [AT.snoc_size];omega,hPT,hPW⟩ ⟨rfl,rfl,rfl,rfl,rfl,trivial⟩
theorem blocks_calls: ∀(d lv:Nat),4≤lv+d→d≤4→lv+3*d≤40→BlkC lv d
 |0,lv,h,_,h2=>blocks_body (by omega) (by decide) (fun h3=>by omega)
 |d+1,lv,h,h1,h2=>by
  have hz:blZ (d+1)≤1000000000:=by
   rcases (by omega:d=0∨d=1∨d=2∨d=3) with rfl|rfl|rfl|rfl<;>decide
  refine blocks_body (by omega) hz (fun h3=>⟨d,rfl,blocks_calls d (lv+1) (by omega) (by omega) (by omega),?_,?_⟩)
  ·exact item_calls (by omega) (blocks_calls d (lv+1+1) (by omega) (by omega) (by omega))
  ·exact item_calls (by omega) (blocks_calls d (lv+2+1) (by omega) (by omega) (by omega))
theorem made_calls {w:World} {a:Option Addr} {len cap:Nat} {zs:List Int} (h:IsRow .i64 w a len cap zs):Calls Tryz.prog 7 [.slice a len cap].toArray w fun e w'=> ∃v t,e= .returned v∧TreeAt true w' v t∧t.okc tBlk 26∧t.wt≤100000000000∧0<t.len∧Chg w w' No:=by
 refine zCz 7 Tryz.func7 ?_
 refine zz ?_
 refine z_buildE #[.slice a len cap,.int .i64 0] (want_L rfl) (by decide) rfl (by kernel_rfl) ?_
 refine zBx rfl (fun w1 b1 hN1=> ?_)
 have hb1:Blk w1 b1 36 [.slice a len cap,.int .i64 ((0:Nat):Int)]:=hN1.blk
 have hT:Tp w1 w.heap.size b1:=⟨⟨w,a,len,cap,zs,0,Nat.le_refl _,hb1,h,hN1.chg.mono (fun _ _ h=>h.elim),Nat.zero_le _⟩,Nat.le_of_eq hN1.at_.symm⟩
 refine zCl rfl (blocks_calls 4 0 (by decide) (by decide) (by decide) (li:=0) hT rfl) ?_
 rintro _ w2 ⟨vo,t,rfl,hO,hok,hsz,hT2,hC,hpos⟩
 refine ⟨_,rfl,?_⟩
 have h4:blZ 4=114244000:=by decide
 have hw:=t.ok_wt hok.1
 refine zz ?_
 exact zk_ret1 (.inr rfl) rfl rfl ⟨_,t,rfl,hO.tree.at',hok,by omega,hpos,hN1.chg.trans hC (fun k hk he=>by have:=hN1.at_;omega)⟩
theorem AT.app_wt: ∀t q:AT,(t.app q).wt=t.wt+q.wt
 | .nil,q=>by simp [AT.app,AT.wt]
 | .cons x k r,q=>by have:=AT.app_wt r q;simp only [AT.app,AT.wt,this];omega
theorem IsRow.no {k:IntKind} {w w':World} {a:Option Addr} {len cap:Nat} {zs:List Int} (h:IsRow k w a len cap zs) (hc:Chg w w' No):IsRow k w' a len cap zs:=by
 rcases h with h|⟨x,h1,h2,h3,h4,h5,h6⟩
 ·exact .inl h
 ·exact .inr ⟨x,h1,h2,h3,h4,fun i hi=>cell_keep hc (h5 i hi),h6⟩
end Go.Proofs.YtbcmiijollpgeaaGreat.T
namespace Go.Z
open Go
section
variable {P : Program} {n : Nat} {e : Env} {w : World} {Q : Exit → Act → World → Prop} {ops : Array Oper} {rest : List Oper}
variable {d : Tmp} {ty : TypeId} {pos : String} {aft : Array Edge} {g : Option (Nat × Bool)} {x y : Operand} {xt yt : TypeId}
theorem z_cutW {l:List UInt8} {lo hi:Option Operand} {a b:Int} {t:TypeId} [hu:Und P t .string] (hw:Want ops e g) (hdn:d<n) (hx:ev e x=some (.string (bs l))) (hl:optI lo e 0=some a) (hh:optI hi e l.length=some b) (h0:0≤a) (h1:a≤b) (h2:b≤l.length)
  (h: ∀r:List UInt8,(r.length:Int)=b - a→ZL P n ops rest ((d,.string (bs r))::e) w Q):ZL P n ops (⟨some d,.slice t x lo hi none,ty,pos,aft,g⟩::rest) e w Q:=
 z_cutL hw hdn hx hl hh h0 h1 h2 (h _ (by rw [List.length_take,List.length_drop];omega))
class Ln (l:List UInt8) (k:outParam Nat):Prop where
 eq:l.length=k
instance (priority:=low) lnAny (l:List UInt8):Ln l l.length:=⟨rfl⟩
instance lnNil:Ln [] 0:=⟨rfl⟩
instance lnCons (c:UInt8) (l:List UInt8) (k:Nat) [h:Ln l k]:Ln (c::l) (k+1):=⟨by rw [List.length_cons,h.eq]⟩
theorem z_catW {l r:List UInt8} {i j:Nat} [hi:Ln l i] [hj:Ln r j] (hw:Want ops e g) (hdn:d<n) (hx:ev e x=some (.string (bs l))) (hy:ev e y=some (.string (bs r))) (hsz:(i:Int)+j≤9223372036854775807)
  (h: ∀s:List UInt8,s.length=i+j→ZL P n ops rest ((d,.string (bs s))::e) w Q):ZL P n ops (⟨some d,.binOp .add xt x y yt,ty,pos,aft,g⟩::rest) e w Q:=
 z_catL hw hdn hx hy (by rw [hi.eq,hj.eq];exact hsz) (h _ (by rw [List.length_append,hi.eq,hj.eq]))
theorem byte_lt (l:List UInt8) (j:Nat):(l.getD j 0).toNat<256:=(l.getD j 0).toNat_lt
theorem z_idxW {l:List UInt8} {k:IntKind} {i:Int} {t:TypeId} [hu:Und P t .string] (hw:Want ops e g) (hdn:d<n) (hx:ev e x=some (.string (bs l))) (hy:ev e y=some (.int k i)) (h0:0≤i) (h1:i<l.length)
  (h: ∀c:Nat,c<256→ZL P n ops rest ((d,.int .u8 c)::e) w Q):ZL P n ops (⟨some d,.index t x y,ty,pos,aft,g⟩::rest) e w Q:=
 z_idxL hw hdn hx hy h0 h1 (h _ (byte_lt l _))
theorem wrap_u8' (a:Int):0≤IntKind.u8.wrap a∧IntKind.u8.wrap a<256:=by
 simp only [IntKind.wrap,IntKind.bits,IntKind.signed];simp;omega
theorem z_subW {a b:Int} (hw:Want ops e g) (hdn:d<n) (hx:ev e x=some (.int .u8 a)) (hy:ev e y=some (.int .u8 b))
  (h: ∀c:Nat,c<256→ZL P n ops rest ((d,.int .u8 c)::e) w Q):ZL P n ops (⟨some d,.binOp .sub xt x y yt,ty,pos,aft,g⟩::rest) e w Q:=by
 obtain ⟨h0,h1⟩:=wrap_u8' (a - b)
 obtain ⟨c,hc⟩:=Int.eq_ofNat_of_zero_le h0
 exact z_arith (.inr (.inl ⟨rfl,hc.symm⟩)) hw hdn hx hy (h c (by omega))
theorem z_addW {a b:Int} (hw:Want ops e g) (hdn:d<n) (hx:ev e x=some (.int .u8 a)) (hy:ev e y=some (.int .u8 b))
  (h: ∀c:Nat,c<256→ZL P n ops rest ((d,.int .u8 c)::e) w Q):ZL P n ops (⟨some d,.binOp .add xt x y yt,ty,pos,aft,g⟩::rest) e w Q:=by
 obtain ⟨h0,h1⟩:=wrap_u8' (a+b)
 obtain ⟨c,hc⟩:=Int.eq_ofNat_of_zero_le h0
 exact z_arith (.inl ⟨rfl,hc.symm⟩) hw hdn hx hy (h c (by omega))
theorem z_add8 {a b:Int} (hw:Want ops e g) (hdn:d<n) (hx:ev e x=some (.int .u8 a)) (hy:ev e y=some (.int .u8 b)) (h0:0≤a+b) (h1:a+b≤255)
  (h:ZL P n ops rest ((d,.int .u8 (a+b))::e) w Q):ZL P n ops (⟨some d,.binOp .add xt x y yt,ty,pos,aft,g⟩::rest) e w Q:=
 z_arith (.inl ⟨rfl,(wrap_u8 h0 h1).symm⟩) hw hdn hx hy h
theorem r_min {x y:Operand} {k:IntKind} {a b c:Int} {ats:Array TypeId} (hx:ev e x=some (.int k a)) (hy:ev e y=some (.int k b)) (hc:c=if b<a then b else a):Rd P n e w ⟨some d,.call {callee:= .builtin .min,args:= #[x,y],argTypes:=ats},ty,pos,aft,g⟩ (.int k c):=fun A hA=>by
 subst hc
 simp [execOp,resolve,invoke,builtin,hA.ev hx,hA.ev hy,Builtin.min_,Builtin.min2]
theorem z_minW {x y:Operand} {k:IntKind} {a b:Int} {ats:Array TypeId} (hw:Want ops e g) (hdn:d<n) (hx:ev e x=some (.int k a)) (hy:ev e y=some (.int k b))
  (h: ∀c:Int,c≤a→c≤b→(c=a∨c=b)→ZL P n ops rest ((d,.int k c)::e) w Q):ZL P n ops (⟨some d,.call {callee:= .builtin .min,args:= #[x,y],argTypes:=ats},ty,pos,aft,g⟩::rest) e w Q:=
 zl_run hw rfl hdn (r_min hx hy rfl) (h _ (by split<;>omega) (by split<;>omega) (by split<;>simp))
theorem z_maxW {x y:Operand} {k:IntKind} {a b:Int} {ats:Array TypeId} (hw:Want ops e g) (hdn:d<n) (hx:ev e x=some (.int k a)) (hy:ev e y=some (.int k b))
  (h: ∀c:Int,a≤c→b≤c→(c=a∨c=b)→ZL P n ops rest ((d,.int k c)::e) w Q):ZL P n ops (⟨some d,.call {callee:= .builtin .max,args:= #[x,y],argTypes:=ats},ty,pos,aft,g⟩::rest) e w Q:=
 zl_run hw rfl hdn (r_max hx hy rfl) (h _ (by split<;>omega) (by split<;>omega) (by split<;>simp))
theorem z_shr4 {c:Nat} {yt':TypeId} (hc:c<256) (hw:Want ops e g) (hdn:d<n) (hx:ev e x=some (.int .u8 c)) (hy:ev e y=some (.int .u64 4))
  (h: ∀c:Nat,c<16→ZL P n ops rest ((d,.int .u8 c)::e) w Q):ZL P n ops (⟨some d,.binOp .shr xt x y yt',ty,pos,aft,g⟩::rest) e w Q:=
 zl_run (v:= .int .u8 ((c / 16:Nat):Int)) hw rfl hdn (fun A hA=>by
  have e1:Int.fdiv (c:Int) (2 ^ 4)=((c / 16:Nat):Int):=by rw [Int.fdiv_eq_ediv_of_nonneg _ (by decide)];omega
  have e2:min (Int.toNat 4) (IntKind.bits .u8)=4:=by decide
  simp only [execOp,hA.ev hx,hA.ev hy,Sem.run_bind,run_int_eqGuard,Result.andThen_ok,binOp,Op.shift,e2,e1]
  rfl) (h _ (by omega))
theorem z_and15 {c:Nat} {yt':TypeId} (hw:Want ops e g) (hdn:d<n) (hx:ev e x=some (.int .u8 c)) (hy:ev e y=some (.int .u8 15))
  (h: ∀c:Nat,c<16→ZL P n ops rest ((d,.int .u8 c)::e) w Q):ZL P n ops (⟨some d,.binOp .and xt x y yt',ty,pos,aft,g⟩::rest) e w Q:=by
 obtain ⟨m,hm⟩: ∃m,m=(BitVec.ofInt 8 (c:Int) &&& BitVec.ofInt 8 15).toNat:=⟨_,rfl⟩
 have hm16:m<16:=by
  have h1:(BitVec.ofInt 8 15).toNat=15:=by decide
  rw [hm,BitVec.toNat_and,h1]
  exact Nat.lt_of_le_of_lt Nat.and_le_right (by decide)
 refine zl_run (v:= .int .u8 (m:Int)) hw rfl hdn (fun A hA=> ?_) (h _ hm16)
 have e1:IntKind.u8.wrap (m:Int)=(m:Int):=wrap_u8 (by omega) (by omega)
 have e2:IntKind.u8.wrap (((BitVec.ofInt 8 (c:Int) &&& BitVec.ofInt 8 15).toNat:Nat):Int)=(m:Int):=by rw [←hm];exact e1
 simp only [execOp,hA.ev hx,hA.ev hy,Sem.run_bind,run_int_eqGuard,Result.andThen_ok,binOp,Op.intBits]
 rw [if_neg (by simp)]
 show (Sem.run P (pure (Value.int .u8 (IntKind.u8.wrap (((BitVec.ofInt 8 (c:Int) &&& BitVec.ofInt 8 15).toNat:Nat):Int)))) w).andThen _=_
 rw [e2];rfl
class PureOp (o:Op):Prop where
 yes:True
instance pureMove (x:Operand):PureOp (.move x):=⟨trivial⟩
instance pureAssign (x:Operand):PureOp (.assign x):=⟨trivial⟩
instance purePick (x y z:Operand):PureOp (.pick x y z):=⟨trivial⟩
instance pureNot (t:TypeId) (x:Operand):PureOp (.unOp .not t x):=⟨trivial⟩
theorem a_pure {l:List Oper} {d':Option Tmp} {op:Op} {v:Value} [hp:PureOp op] (h:ZL P n l.toArray rest ((d,v)::e) w Q) (hs:stepL n l e ⟨d',op,ty,pos,aft,g⟩=some (d,v):=by exact rfl):ZL P n l.toArray (⟨d',op,ty,pos,aft,g⟩::rest) e w Q:=zP hs h
theorem a_skip {l:List Oper} {d':Option Tmp} {op:Op} {gd:Nat×Bool} (h:ZL P n l.toArray rest ((d,undef)::e) w Q) (hs:skipL n l e ⟨d',op,ty,pos,aft,some gd⟩=some d:=by exact rfl):ZL P n l.toArray (⟨d',op,ty,pos,aft,some gd⟩::rest) e w Q:=zJ hs h
theorem a_fa {s f off b o:Nat} [hF:FA P s f off] (hx:ev e x=some (.pointer (some ⟨b,o,none⟩))) (h:ZL P n ops rest ((d,.pointer (some ⟨b,o+off,none⟩))::e) w Q) (hw:Want ops e g:=by first|exact want_none|exact want_L rfl) (hdn:d<n:=by decide):ZL P n ops (⟨some d,.fieldAddr s x f,ty,pos,aft,g⟩::rest) e w Q:=z_fa hw hdn hx h
theorem a_load1 {t:TypeId} {ad:Addr} {v:Value} [hA:IsA P t false] (hx:ev e x=some (.pointer (some ad))) (h:ZL P n ops rest ((d,v)::e) w Q) (hw:Want ops e g:=by first|exact want_none|exact want_L rfl) (hdn:d<n:=by decide) (hc:w.cell? ad=some v:=by assumption):ZL P n ops (⟨some d,.load t x,ty,pos,aft,g⟩::rest) e w Q:=z_load1 hw hdn hx hc h
theorem a_loadB {t:TypeId} {b o:Nat} {bt:TypeId} {cs:List Value} {v:Value} [hA:IsA P t false] (hx:ev e x=some (.pointer (some ⟨b,o,none⟩))) (h:ZL P n ops rest ((d,v)::e) w Q) (hw:Want ops e g:=by first|exact want_none|exact want_L rfl) (hdn:d<n:=by decide) (hb:Blk w b bt cs:=by assumption) (hv:cs[o]? =some v:=by exact rfl):ZL P n ops (⟨some d,.load t x,ty,pos,aft,g⟩::rest) e w Q:=z_loadB hw hdn hx hb hv h
theorem a_loadAB {t:TypeId} {b:Nat} {bt:TypeId} {cs:List Value} {sz k:Nat} {z:Value} [hA:IsA P t true] [hz:Inf P t sz k z] (hx:ev e x=some (.pointer (some ⟨b,0,none⟩))) (h:ZL P n ops rest ((d,.agg cs.toArray)::e) w Q) (hw:Want ops e g:=by first|exact want_none|exact want_L rfl) (hdn:d<n:=by decide) (hb:Blk w b bt cs:=by assumption) (hl:cs.length=sz:=by exact rfl):ZL P n ops (⟨some d,.load t x,ty,pos,aft,g⟩::rest) e w Q:=z_loadAB hw hdn hx hb hl h
theorem a_len {A:Option Addr} {m c:Nat} {t el:TypeId} [hu:Und P t (.slice el)] (hx:ev e x=some (.slice A m c)) (h:ZL P n ops rest ((d,.int .i64 m)::e) w Q) (hw:Want ops e g:=by first|exact want_none|exact want_L rfl) (hdn:d<n:=by decide):ZL P n ops (⟨some d,.call {callee:= .builtin .len,args:= #[x],argTypes:= #[t]},ty,pos,aft,g⟩::rest) e w Q:=z_len hw hdn hx h
theorem a_lenL {l:List UInt8} {t:TypeId} [hu:Und P t .string] (hx:ev e x=some (.string (bs l))) (h:ZL P n ops rest ((d,.int .i64 l.length)::e) w Q) (hw:Want ops e g:=by first|exact want_none|exact want_L rfl) (hdn:d<n:=by decide):ZL P n ops (⟨some d,.call {callee:= .builtin .len,args:= #[x],argTypes:= #[t]},ty,pos,aft,g⟩::rest) e w Q:=z_lenL hw hdn hx h
theorem a_ia {b o m c s k:Nat} {ik:IntKind} {i:Int} {t el:TypeId} {z:Value} [hu:Und P t (.slice el)] [hz:Inf P el s k z] (hx:ev e x=some (.slice (some ⟨b,o,none⟩) m c)) (hy:ev e y=some (.int ik i)) (h:ZL P n ops rest ((d,.pointer (some ⟨b,o+i.toNat*s,none⟩))::e) w Q) (hw:Want ops e g:=by first|exact want_none|exact want_L rfl) (hdn:d<n:=by decide) (h0:0≤i:=by omega) (h1:i<m:=by omega):ZL P n ops (⟨some d,.indexAddr t x y,ty,pos,aft,g⟩::rest) e w Q:=z_ia hw hdn hx hy h0 h1 h
theorem a_add {a b:Int} (hx:ev e x=some (.int .i64 a)) (hy:ev e y=some (.int .i64 b)) (h:ZL P n ops rest ((d,.int .i64 (a+b))::e) w Q) (hw:Want ops e g:=by first|exact want_none|exact want_L rfl) (hdn:d<n:=by decide) (h0: -9223372036854775808≤a+b:=by omega) (h1:a+b≤9223372036854775807:=by omega):ZL P n ops (⟨some d,.binOp .add xt x y yt,ty,pos,aft,g⟩::rest) e w Q:=z_add hw hdn hx hy h0 h1 h
theorem a_sub {a b:Int} (hx:ev e x=some (.int .i64 a)) (hy:ev e y=some (.int .i64 b)) (h:ZL P n ops rest ((d,.int .i64 (a - b))::e) w Q) (hw:Want ops e g:=by first|exact want_none|exact want_L rfl) (hdn:d<n:=by decide) (h0: -9223372036854775808≤a - b:=by omega) (h1:a - b≤9223372036854775807:=by omega):ZL P n ops (⟨some d,.binOp .sub xt x y yt,ty,pos,aft,g⟩::rest) e w Q:=z_sub hw hdn hx hy h0 h1 h
theorem a_mul {a b:Int} (hx:ev e x=some (.int .i64 a)) (hy:ev e y=some (.int .i64 b)) (h:ZL P n ops rest ((d,.int .i64 (a*b))::e) w Q) (hw:Want ops e g:=by first|exact want_none|exact want_L rfl) (hdn:d<n:=by decide) (h0: -9223372036854775808≤a*b:=by omega) (h1:a*b≤9223372036854775807:=by omega):ZL P n ops (⟨some d,.binOp .mul xt x y yt,ty,pos,aft,g⟩::rest) e w Q:=z_mul hw hdn hx hy h0 h1 h
theorem a_add8 {a b:Int} (hx:ev e x=some (.int .u8 a)) (hy:ev e y=some (.int .u8 b)) (h:ZL P n ops rest ((d,.int .u8 (a+b))::e) w Q) (hw:Want ops e g:=by first|exact want_none|exact want_L rfl) (hdn:d<n:=by decide) (h0:0≤a+b:=by omega) (h1:a+b≤255:=by omega):ZL P n ops (⟨some d,.binOp .add xt x y yt,ty,pos,aft,g⟩::rest) e w Q:=z_add8 hw hdn hx hy h0 h1 h
theorem a_subW {a b:Int} (hx:ev e x=some (.int .u8 a)) (hy:ev e y=some (.int .u8 b)) (h: ∀c:Nat,c<256→ZL P n ops rest ((d,.int .u8 c)::e) w Q) (hw:Want ops e g:=by first|exact want_none|exact want_L rfl) (hdn:d<n:=by decide):ZL P n ops (⟨some d,.binOp .sub xt x y yt,ty,pos,aft,g⟩::rest) e w Q:=z_subW hw hdn hx hy h
theorem a_catW {l r:List UInt8} {i j:Nat} (hx:ev e x=some (.string (bs l))) (hy:ev e y=some (.string (bs r))) (h: ∀s:List UInt8,s.length=i+j→ZL P n ops rest ((d,.string (bs s))::e) w Q) (hw:Want ops e g:=by first|exact want_none|exact want_L rfl) (hdn:d<n:=by decide) (hi:Ln l i:=by infer_instance) (hj:Ln r j:=by infer_instance) (hsz:(i:Int)+j≤9223372036854775807:=by first|omega|(simp only [List.length_cons,List.length_nil];omega)):ZL P n ops (⟨some d,.binOp .add xt x y yt,ty,pos,aft,g⟩::rest) e w Q:=z_catW hw hdn hx hy hsz h
theorem a_cutW {l:List UInt8} {lo hi:Option Operand} {a b:Int} {t:TypeId} [hu:Und P t .string] (hx:ev e x=some (.string (bs l))) (hl:optI lo e 0=some a) (hh:optI hi e l.length=some b) (h: ∀r:List UInt8,(r.length:Int)=b - a→ZL P n ops rest ((d,.string (bs r))::e) w Q) (hw:Want ops e g:=by first|exact want_none|exact want_L rfl) (hdn:d<n:=by decide) (h0:0≤a:=by omega) (h1:a≤b:=by first|omega|(simp only [List.length_cons,List.length_nil];omega)) (h2:b≤l.length:=by first|omega|(simp only [List.length_cons,List.length_nil];omega)):ZL P n ops (⟨some d,.slice t x lo hi none,ty,pos,aft,g⟩::rest) e w Q:=z_cutW hw hdn hx hl hh h0 h1 h2 h
theorem a_idxW {l:List UInt8} {k:IntKind} {i:Int} {t:TypeId} [hu:Und P t .string] (hx:ev e x=some (.string (bs l))) (hy:ev e y=some (.int k i)) (h: ∀c:Nat,c<256→ZL P n ops rest ((d,.int .u8 c)::e) w Q) (hw:Want ops e g:=by first|exact want_none|exact want_L rfl) (hdn:d<n:=by decide) (h0:0≤i:=by omega) (h1:i<l.length:=by omega):ZL P n ops (⟨some d,.index t x y,ty,pos,aft,g⟩::rest) e w Q:=z_idxW hw hdn hx hy h0 h1 h
theorem a_conv {src dst:TypeId} {k:IntKind} {i:Int} {u:TypeDesc} [hs:Und P src u] [hd:Und P dst (.int .i64)] (hx:ev e x=some (.int k i)) (h:ZL P n ops rest ((d,.int .i64 i)::e) w Q) (hw:Want ops e g:=by first|exact want_none|exact want_L rfl) (hdn:d<n:=by decide) (h0: -9223372036854775808≤i:=by omega) (h1:i≤9223372036854775807:=by omega):ZL P n ops (⟨some d,.convert src dst x,ty,pos,aft,g⟩::rest) e w Q:=z_convI hw hdn hx (wrap_i64 h0 h1) h
theorem a_min {k:IntKind} {a b:Int} {ats:Array TypeId} (hx:ev e x=some (.int k a)) (hy:ev e y=some (.int k b)) (h: ∀c:Int,c≤a→c≤b→(c=a∨c=b)→ZL P n ops rest ((d,.int k c)::e) w Q) (hw:Want ops e g:=by first|exact want_none|exact want_L rfl) (hdn:d<n:=by decide):ZL P n ops (⟨some d,.call {callee:= .builtin .min,args:= #[x,y],argTypes:=ats},ty,pos,aft,g⟩::rest) e w Q:=z_minW hw hdn hx hy h
theorem a_max {k:IntKind} {a b:Int} {ats:Array TypeId} (hx:ev e x=some (.int k a)) (hy:ev e y=some (.int k b)) (h: ∀c:Int,a≤c→b≤c→(c=a∨c=b)→ZL P n ops rest ((d,.int k c)::e) w Q) (hw:Want ops e g:=by first|exact want_none|exact want_L rfl) (hdn:d<n:=by decide):ZL P n ops (⟨some d,.call {callee:= .builtin .max,args:= #[x,y],argTypes:=ats},ty,pos,aft,g⟩::rest) e w Q:=z_maxW hw hdn hx hy h
theorem a_shr {c:Nat} (hx:ev e x=some (.int .u8 c)) (hy:ev e y=some (.int .u64 4)) (h: ∀c:Nat,c<16→ZL P n ops rest ((d,.int .u8 c)::e) w Q) (hw:Want ops e g:=by first|exact want_none|exact want_L rfl) (hdn:d<n:=by decide) (hc:c<256:=by omega):ZL P n ops (⟨some d,.binOp .shr xt x y yt,ty,pos,aft,g⟩::rest) e w Q:=z_shr4 hc hw hdn hx hy h
theorem a_and {c:Nat} (hx:ev e x=some (.int .u8 c)) (hy:ev e y=some (.int .u8 15)) (h: ∀c:Nat,c<16→ZL P n ops rest ((d,.int .u8 c)::e) w Q) (hw:Want ops e g:=by first|exact want_none|exact want_L rfl) (hdn:d<n:=by decide):ZL P n ops (⟨some d,.binOp .and xt x y yt,ty,pos,aft,g⟩::rest) e w Q:=z_and15 hw hdn hx hy h
theorem a_cmpT {op:BinOp} {k:IntKind} {a b:Int} {p:Prop} (hx:ev e x=some (.int k a)) (hy:ev e y=some (.int k b)) (hop:cmpP op a b=some p) (h:ZL P n ops rest ((d,.bool true)::e) w Q) (hw:Want ops e g:=by first|exact want_none|exact want_L rfl) (hdn:d<n:=by decide) (hp:p:=by omega):ZL P n ops (⟨some d,.binOp op xt x y yt,ty,pos,aft,g⟩::rest) e w Q:=z_cmpB hw hdn hx hy hop (iff_of_true rfl hp) h
theorem a_cmpF {op:BinOp} {k:IntKind} {a b:Int} {p:Prop} (hx:ev e x=some (.int k a)) (hy:ev e y=some (.int k b)) (hop:cmpP op a b=some p) (h:ZL P n ops rest ((d,.bool false)::e) w Q) (hw:Want ops e g:=by first|exact want_none|exact want_L rfl) (hdn:d<n:=by decide) (hp: ¬p:=by omega):ZL P n ops (⟨some d,.binOp op xt x y yt,ty,pos,aft,g⟩::rest) e w Q:=z_cmpB hw hdn hx hy hop (iff_of_false Bool.false_ne_true hp) h
theorem a_cmp {op:BinOp} {k:IntKind} {a b:Int} {p:Prop} (hx:ev e x=some (.int k a)) (hy:ev e y=some (.int k b)) (hop:cmpP op a b=some p) (ht:p→ZL P n ops rest ((d,.bool true)::e) w Q) (hf: ¬p→ZL P n ops rest ((d,.bool false)::e) w Q) (hw:Want ops e g:=by first|exact want_none|exact want_L rfl) (hdn:d<n:=by decide):ZL P n ops (⟨some d,.binOp op xt x y yt,ty,pos,aft,g⟩::rest) e w Q:=z_cmp hw hdn hx hy hop ht hf
theorem a_eq {l r:List UInt8} (hx:ev e x=some (.string (bs l))) (hy:ev e y=some (.string (bs r))) (ht:l=r→ZL P n ops rest ((d,.bool true)::e) w Q) (hf:l≠r→ZL P n ops rest ((d,.bool false)::e) w Q) (hw:Want ops e g:=by first|exact want_none|exact want_L rfl) (hdn:d<n:=by decide):ZL P n ops (⟨some d,.binOp .eql xt x y yt,ty,pos,aft,g⟩::rest) e w Q:=z_eqL hw hdn hx hy ht hf
theorem a_ne {l r:List UInt8} (hx:ev e x=some (.string (bs l))) (hy:ev e y=some (.string (bs r))) (ht:l≠r→ZL P n ops rest ((d,.bool true)::e) w Q) (hf:l=r→ZL P n ops rest ((d,.bool false)::e) w Q) (hw:Want ops e g:=by first|exact want_none|exact want_L rfl) (hdn:d<n:=by decide):ZL P n ops (⟨some d,.binOp .neq xt x y yt,ty,pos,aft,g⟩::rest) e w Q:=z_neL hw hdn hx hy ht hf
end
open Go
theorem za {X Y:Prop} (q:Y) (h:Hq Y→X:=by intro q; (first|(show ZL _ _ _ _ _ _ _;first|(show ZL _ _ _ [] _ _ _;refine zN ?_)|refine a_pure ?_|refine a_skip ?_|(show ZL _ _ _ (⟨_,(.load _ _),_,_,_,_⟩::_) _ _ _;first|refine a_loadB rfl ?_|refine a_load1 rfl ?_|refine a_loadAB rfl ?_)|(show ZL _ _ _ (⟨_,(.call _),_,_,_,_⟩::_) _ _ _;first|refine a_len rfl ?_|refine a_lenL rfl ?_)|(show ZL _ _ _ (⟨_,(.binOp .add _ _ _ _),_,_,_,_⟩::_) _ _ _;first|refine a_add rfl rfl ?_|refine a_add8 rfl rfl ?_)|(show ZL _ _ _ (⟨_,(.binOp .sub _ _ _ _),_,_,_,_⟩::_) _ _ _;first|refine a_sub rfl rfl ?_)|(show ZL _ _ _ (⟨_,(.fieldAddr _ _ _),_,_,_,_⟩::_) _ _ _;refine a_fa rfl ?_)|(show ZL _ _ _ (⟨_,(.indexAddr _ _ _),_,_,_,_⟩::_) _ _ _;refine a_ia rfl rfl ?_)|(show ZL _ _ _ (⟨_,(.convert _ _ _),_,_,_,_⟩::_) _ _ _;refine a_conv rfl ?_)|(show ZL _ _ _ (⟨_,(.binOp _ _ _ _ _),_,_,_,_⟩::_) _ _ _;first|refine a_cmpT rfl rfl rfl ?_|refine a_cmpF rfl rfl rfl ?_|refine a_mul rfl rfl ?_))|(show ZC _ _ _ _ _ _;first|refine zS ?_|refine zR ?_|refine zB ?_|refine zA ?_|refine zL ?_|refine zE ?_|refine zT rfl ?_|refine zF rfl ?_)|(show ZK _ _ _ _ _;first|refine zK ?_|refine zX ?_|refine zQ ?_|refine zW ?_|refine zM ?_|refine zY ?_|refine zY' rfl ?_)); (repeat (first|(show ZL _ _ _ _ _ _ _;first|(show ZL _ _ _ [] _ _ _;refine zN ?_)|refine a_pure ?_|refine a_skip ?_|(show ZL _ _ _ (⟨_,(.load _ _),_,_,_,_⟩::_) _ _ _;first|refine a_loadB rfl ?_|refine a_load1 rfl ?_|refine a_loadAB rfl ?_)|(show ZL _ _ _ (⟨_,(.call _),_,_,_,_⟩::_) _ _ _;first|refine a_len rfl ?_|refine a_lenL rfl ?_)|(show ZL _ _ _ (⟨_,(.binOp .add _ _ _ _),_,_,_,_⟩::_) _ _ _;first|refine a_add rfl rfl ?_|refine a_add8 rfl rfl ?_)|(show ZL _ _ _ (⟨_,(.binOp .sub _ _ _ _),_,_,_,_⟩::_) _ _ _;first|refine a_sub rfl rfl ?_)|(show ZL _ _ _ (⟨_,(.fieldAddr _ _ _),_,_,_,_⟩::_) _ _ _;refine a_fa rfl ?_)|(show ZL _ _ _ (⟨_,(.indexAddr _ _ _),_,_,_,_⟩::_) _ _ _;refine a_ia rfl rfl ?_)|(show ZL _ _ _ (⟨_,(.convert _ _ _),_,_,_,_⟩::_) _ _ _;refine a_conv rfl ?_)|(show ZL _ _ _ (⟨_,(.binOp _ _ _ _ _),_,_,_,_⟩::_) _ _ _;first|refine a_cmpT rfl rfl rfl ?_|refine a_cmpF rfl rfl rfl ?_|refine a_mul rfl rfl ?_))|(show ZC _ _ _ _ _ _;first|refine zS ?_|refine zR ?_|refine zB ?_|refine zA ?_|refine zL ?_|refine zE ?_|refine zT rfl ?_|refine zF rfl ?_)|(show ZK _ _ _ _ _;first|refine zK ?_|refine zX ?_|refine zQ ?_|refine zW ?_|refine zM ?_|refine zY ?_|refine zY' rfl ?_)));exact q.q):X:=h ⟨q⟩
end Go.Z
namespace Go.Proofs.YtbcmiijollpgeaaGreat.T
open Go Go.Z Go.Proofs
def beginsN (l p:List UInt8):Bool:=decide (l.take p.length=p)
theorem begins_calls {w:World} (l p:List UInt8) (hl:l.length≤big) (hp:p.length≤1000):Calls Tryz.prog 47 [.string (bs l),.string (bs p)].toArray w fun e w'=>e= .returned (.bool (beginsN l p))∧w'=w:=by
 have hbig:big=1000000000000:=rfl
 refine zCz 18 Tryz.func47 ?_
 by_cases h:p.length≤l.length
 ·refine zz ?_
  refine z_cutN 0 p.length (want_L rfl) (by decide) rfl rfl rfl rfl rfl (Nat.zero_le _) h ?_
  rw [List.drop_zero,Nat.sub_zero]
  refine zP rfl ?_
  refine zEq rfl rfl (fun hc=> ?_) (fun hc=> ?_)
  ·refine zz ?_
   exact zk_ret1 (.inr rfl) rfl rfl ⟨by unfold beginsN;rw [decide_eq_true hc],rfl⟩
  ·refine zz ?_
   exact zk_ret1 (.inr rfl) rfl rfl ⟨by unfold beginsN;rw [decide_eq_false hc],rfl⟩
 ·refine zz ?_
  refine zk_ret1 (.inr rfl) rfl rfl ⟨?_,rfl⟩
  unfold beginsN
  rw [decide_eq_false (fun hc=>by have:=congrArg List.length hc;rw [List.length_take] at this;omega)]
def letN (c:Nat):Bool:=decide (97≤c∧c≤122∨65≤c∧c≤90)
theorem letter_calls {w:World} (c:Nat):Calls Tryz.prog 107 [.int .u8 c].toArray w fun e w'=>e= .returned (.bool (letN c))∧w'=w:=by
 unfold letN
 refine zCz 17 Tryz.func107 ?_
 repeat' (first|refine za ?_|refine a_cutW rfl rfl rfl fun _ _=> ?_|refine a_catW rfl rfl fun _ _=> ?_|refine a_idxW rfl rfl fun _ _=> ?_|refine a_addW rfl rfl fun _ _=> ?_|refine a_subW rfl rfl fun _ _=> ?_|refine a_min rfl rfl fun _ _ _ _=> ?_|refine a_max rfl rfl fun _ _ _ _=> ?_|refine a_shr rfl rfl fun _ _=> ?_|refine a_and rfl rfl fun _ _=> ?_|refine a_cmp rfl rfl rfl (fun _=> ?_) fun _=> ?_|refine a_eq rfl rfl (fun _=> ?_) fun _=> ?_|refine a_ne rfl rfl (fun _=> ?_) fun _=> ?_)
 all_goals refine zk_ret1 (.inr rfl) rfl rfl ⟨?_,rfl⟩
 all_goals first|(rw [decide_eq_true (by omega)];done)|(rw [decide_eq_false (by omega)];done)
theorem index_at {w:World} (l p:List UInt8) (fr k:Nat) (hl:l.length≤big) (hp:p.length≤big) (hfk:fr≤k) (hk:k+p.length≤l.length) (hat:(l.drop k).take p.length=p) (hno: ∀j,fr≤j→j<k→(l.drop j).take p.length≠p):
  Calls Tryz.prog 16 [.string (bs l),.string (bs p),.int .i64 fr].toArray w fun e w'=>e= .returned (.int .i64 k)∧w'=w:=by
 have hbig:big=1000000000000:=rfl
 refine zCz 29 Tryz.func16 ?_
 refine zz ?_
 refine z_maxW (want_L rfl) (by decide) rfl rfl (fun c h1 h2 h3=> ?_)
 obtain rfl:c=fr:=by omega
 refine zz ?_
 refine zc_loopW (ι:=Nat) (fun i u=> [(0,.string (bs l)),(1,.string (bs p)),(7,.int .i64 (i:Nat))]) (fun i u=>fr≤i∧i≤k∧u=w) (fun i u=>k+1 - i) fr ⟨Nat.le_refl _,hfk,rfl⟩ ⟨rfl,rfl,rfl,trivial⟩ ?_
 rintro i u ⟨hfi,hi,hu⟩
 obtain rfl:=hu.symm
 refine zz ?_
 refine z_cutN i (i+p.length) (want_L rfl) (by decide) rfl rfl rfl rfl (by omega) (by omega) (by omega) ?_
 rw [show i+p.length - i=p.length by omega]
 refine zP rfl ?_
 refine zEq rfl rfl (fun hc=> ?_) (fun hc=> ?_)
 ·have:i=k:=by
   rcases Nat.lt_or_ge i k with h|h
   ·exact absurd hc (hno i hfi h)
   ·omega
  subst this
  refine zz ?_
  exact zk_ret1 (.inr rfl) rfl rfl ⟨rfl,rfl⟩
 ·have:i≠k:=fun h=>hc (h▸hat)
  refine zz ?_
  exact zk_loopW (i+1) ⟨by omega,by omega,rfl⟩ (by omega) ⟨rfl,rfl,get_int rfl (by omega),trivial⟩
end Go.Proofs.YtbcmiijollpgeaaGreat.T
