import Derived.Test.YtbcmiijollpgeaaGreatWH
set_option maxHeartbeats 32000000
set_option maxRecDepth 100000
set_option linter.unusedVariables false
set_option linter.unusedSimpArgs false
namespace Go.Proofs.YtbcmiijollpgeaaGreat.D
open Go Go.Z Go.Proofs
def FO (W:Nat) (w:World) (v:Value) (m:Nat) (cs:List Value):Prop:=Own w 3 1 v m cs∧ ∀k,v.ownBlock=some k→W≤k
section
variable {W m m' : Nat} {w w' w0 : World} {v v' : Value} {cs cs' : List Value}
theorem FO.no (h:FO W w v m cs) (hc:Chg w w' No):FO W w' v m cs:=⟨h.1.no hc,h.2⟩
theorem FO.grow (h:FO W w v m cs) (hW:W≤w.heap.size) (hO:Own w' 3 1 v' m' cs') (hr:v'.ownBlock=v.ownBlock∨ ∃k,v'.ownBlock=some k∧w.heap.size≤k):FO W w' v' m' cs':=⟨hO,fun k hk=>by
 rcases hr with e|⟨j,e,e2⟩
 ·exact h.2 k (e▸hk)
 ·rw [hk] at e;cases e;omega⟩
theorem FO.ch (h:FO w0.heap.size w v m cs) (h0:Chg w0 w No) (hc:Chg w w' (fun k=>v.ownBlock=some k)):Chg w0 w' No:=h0.trans hc (fun k hk he=>by have:=h.2 k he;omega)
theorem FO.rd (h:FO W w v m cs) (hc:Chg w w' (fun k=>v.ownBlock=some k)) {x:Value} {n:Nat} {xs:List Value} (hr:RdS w 3 1 x n xs) (hne: ∀k,v.ownBlock=some k→x.ownBlock≠some k):RdS w' 3 1 x n xs:=RdS.chgAt hr hc (fun _ b _ hb _ he=>hne b he hb)
theorem insK_len (K:List Nat) (a n:Nat) (h:a≤K.length):(insK K a n).length=K.length+1:=by unfold insK;simp;omega
end
section
variable {w : World} {p : Nat} {vn vu vr va : Value} {ms : List MN} {ks : List Value} {N : List ND}
theorem rElem'_calls (h:IsR w p vn vu vr ms ks N) (hl:N.length≤10000000) (sp:Int) (nm:ByteArray) {l:List At} (ha:AttrS w va l) (hal:l.length≤10000000):
  Calls Tryz.prog 120 [.pointer (some ⟨p,0,none⟩),.int .i64 sp,.string nm,va].toArray w fun e w'=>e= .returned (.int .i64 N.length)∧ ∃vn' vu' vr' ms' ks',IsR w' p vn' vu' vr' ms' ks' (N++ [⟨1,sp,nm,l,[], -1,[]⟩])∧WrR w w' p vn vu vr ks vn' vu' vr' ks':=by
 obtain ⟨A0,c0,hv0,_⟩:=ha.form
 subst hv0
 refine zCz 17 Tryz.func120 ?_
 refine zz ?_
 refine z_bs0 (want_L rfl) (by decide) (fun w1 b1 hN1=> ?_)
 have hE1:Own w1 45 2 (.slice (some ⟨b1,0,none⟩) 0 0) 0 []:=Own.empty hN1
 refine zP rfl ?_
 refine z_appendO (by rfl) (by decide) (want_L rfl) (by decide) rfl rfl hE1 (RdS.no ha hN1.chg) (by omega) (by omega) (fun v2 w2 hO2 hX2 hr2=> ?_)
 have hC2:Chg w w2 No:=hN1.chg.trans hX2 (fun k hk he=>by simp only [Value.ownBlock,Option.some.injEq] at he;have:=hN1.at_;omega)
 rw [List.nil_append,Nat.zero_add] at hO2
 have hA2:AttrS w2 v2 l:=hO2.rd
 obtain ⟨A2,c2,rfl,_⟩:=hA2.form
 refine z_buildE #[.int .i64 1,.int .i64 sp,.string nm,.slice A2 l.length c2,.string ⟨#[]⟩,.int .i64 0,.slice none 0 0] (want_L rfl) (by decide) rfl (by kernel_rfl) ?_
 refine zCl rfl (rLay_calls (h.no hC2) hl ⟨1,sp,nm,l,[], -1,[]⟩ rfl rfl hA2) ?_
 rintro _ w3 ⟨rfl,vn',vu',vr',ms',ks',g1,g2⟩
 refine ⟨_,rfl,?_⟩
 refine zz ?_
 exact zk_ret1 (.inr rfl) rfl rfl ⟨rfl,_,_,_,_,_,g1,WrR.pre hC2 g2⟩
theorem rPut_calls (h:IsR w p vn vu vr ms ks N) (hW:WF N) (hl:N.length≤10000000) (n up ahead:Int):
  Calls Tryz.prog 82 [.pointer (some ⟨p,0,none⟩),.int .i64 n,.int .i64 up,.int .i64 ahead].toArray w fun e w'=> ∃q ks' N',e= .returned (.bool q)∧IsR w' p vn vu vr ms ks' N'∧WrR w w' p vn vu vr ks vn vu vr ks'∧PutR N n up ahead q N':=by
 have bad: ¬PutOk N n up ahead→ ∃q ks' N',(Ending.returned (.bool false))= .returned (.bool q)∧IsR w p vn vu vr ms ks' N'∧WrR w w p vn vu vr ks vn vu vr ks'∧PutR N n up ahead q N':=fun hn=>⟨false,ks,N,rfl,h,WrR.refl _ _ _ _ _ _,fun hh=>absurd hh hn,fun _=>⟨rfl,rfl⟩⟩
 refine zCz 83 Tryz.func82 ?_
 refine zz ?_
 refine zCp rfl (rIs_calls h n) ?_
 by_cases h1:isN N n
 rotate_left
 ·rw [decide_eq_false h1]
  refine zz ?_
  exact zk_ret1 (.inr rfl) rfl rfl (bad (fun hh=>h1 hh.1))
 rw [decide_eq_true h1]
 refine zP rfl (zP rfl (zP rfl (zP rfl ?_)))
 refine zCp rfl (rElem_calls h up) ?_
 by_cases h2:isN N up∧(ndOf N up).kind=1
 rotate_left
 ·rw [decide_eq_false h2]
  refine zz ?_
  exact zk_ret1 (.inr rfl) rfl rfl (bad (fun hh=>h2 ⟨hh.2.1,hh.2.2.1⟩))
 rw [decide_eq_true h2]
 by_cases h3:n=0
 ·refine zz ?_
  exact zk_ret1 (.inr rfl) rfl rfl (bad (fun hh=>hh.2.2.2.1 h3))
 obtain ⟨i,rfl⟩:=Int.eq_ofNat_of_zero_le h1.1
 have hi:i<N.length:=by have:=h1.2;omega
 obtain ⟨b,o,c,hv,hp⟩:=h.up i hi
 have hb:=h.blk
 rw [hv] at hb
 refine zz ?_
 refine zL1 rfl (cell_at hp (by omega)) ?_
 by_cases h4:0≤(N.getD i n0).up
 ·refine zz ?_
  exact zk_ret1 (.inr rfl) rfl rfl (bad (fun hh=>by have:(N.getD i n0).up<0:=hh.2.2.2.2.1;omega))
 obtain ⟨j,rfl⟩:=Int.eq_ofNat_of_zero_le h2.1.1
 have hj:j<N.length:=by have:=h2.1.2;omega
 have hkj:=hW.kids_len hj
 refine zz ?_
 refine zCl rfl (rBelow_calls h hW j i hj hi) ?_
 rintro _ u ⟨q1,rfl,hq1,hu⟩
 obtain rfl:=hu.symm
 refine ⟨_,rfl,?_⟩
 cases q1
 rotate_left
 ·refine zz ?_
  exact zk_ret1 (.inr rfl) rfl rfl (bad (fun hh=>hh.2.2.2.2.2.1 (hq1.1 rfl)))
 have hna: ¬Anc N j i:=fun ha=>absurd (hq1.2 ha) Bool.false_ne_true
 refine zz ?_
 refine zCp rfl (rPlace_calls h hW j hj ahead (by omega)) ?_
 cases hpl:placeN (N.getD j n0).kids ahead with
 |none=>
  dsimp only [plI]
  refine zz ?_
  exact zk_ret1 (.inr rfl) rfl rfl (bad (fun hh=>by
   have:(placeN (N.getD j n0).kids ahead).isSome=true:=hh.2.2.2.2.2.2
   rw [hpl] at this;cases this))
 |some a=>
  have hok:PutOk N i j ahead:=⟨h1,h2.1,h2.2,h3,by show (N.getD i n0).up<0;omega,hna,by show (placeN (N.getD j n0).kids ahead).isSome=true;rw [hpl];rfl⟩
  have hal:=placeN_le hpl
  dsimp only [plI]
  obtain ⟨br0,cr0,cells0,hvr0,_⟩:=h.row j hj
  obtain ⟨bu0,cu0,cellsu0,hvu0,_⟩:=h.upset i hi
  obtain ⟨br,or',cr,Ak,ck,hvr,hcr,hks,hck⟩:=h.kd j hj
  have hK:=(h.kid j hj).1
  rw [hks] at hK
  rw [hvr] at hvr0
  cases hvr0
  rw [hv] at hvu0
  cases hvu0
  rw [hvr] at hb
  subst hv
  subst hvr
  have hij:i≠j:=fun he=>hna (he▸Anc.refl i)
  have hlen:0+a+1+((N.getD j n0).kids.length - a)=(N.getD j n0).kids.length+1:=by omega
  refine zz ?_
  refine zc_draw [30] (fun w'=>Chg w w' No∧Blk w' p 106 [vn,.slice (some ⟨b,0,none⟩) N.length c,.slice (some ⟨br0,0,none⟩) N.length cr0]) (.take 0 (.take 1 (.take 2 (.take 3 (.take 4 (.take 6 (.take 7 (.take 8 (.take 9 (.take 10 (.take 11 (.take 12 (.take 13 (.take 14 (.take 16 (.take 19 (.take 20 (.take 21 (.take 22 (.take 23 (.take 24 (.take 25 (.take 26 (.take 27 (.all2 5 (.all2 15 (.all1 17 (.all1 18 (.all1 28 (.take 29 (.last 30))))) 17 (.all1 15 (.all1 18 (.all1 28 (.take 29 (.last 30)))))) 17 (.all1 5 (.all1 15 (.all1 18 (.all1 28 (.take 29 (.last 30))))))))))))))))))))))))))))))) (by rfl) (by kernel_rfl) (by kernel_rfl) (fun w1 hCw1 _=>⟨?_,?_⟩)
  ·exact ⟨hCw1,hb.no hCw1⟩
  refine zz ?_
  refine zRd rfl rfl (fun _ hS=>r_load1 rfl (cell_at (cell_no hS.1 hcr) (by omega))) ?_
  refine ztP rfl rfl (zRd rfl rfl (fun _ hS=>r_cutTo (k:=a) hK.flat rfl rfl (by omega)) ?_)
  refine zz ?_
  refine zRd rfl rfl (fun _ hS=>r_load1 rfl (cell_at (cell_no hS.1 hcr) (by omega))) ?_
  refine ztP rfl rfl (zRd rfl rfl (fun _ hS=>r_cutFrom (k:=a) rfl rfl (by omega) (by omega)) ?_)
  -- BEGIN rput.py
  refine zs_two ?_ ?_
  ·refine zo_bs0 rfl (want_L rfl) (by decide) (fun w2 ca hMw2=> ?_)
   have hCw2:Chg w w2 No:=hCw1.no hMw2.chg
   refine ⟨⟨hCw2,hb.no hCw2⟩,?_⟩
   have hF:FO w.heap.size w2 (.slice (some ⟨ca,0,none⟩) 0 0) 0 []:=⟨Own.empty hMw2,fun k hk=>by simp only [Value.ownBlock,Option.some.injEq] at hk;have:=hMw2.at_;have:=hCw1.size;omega⟩
   refine zs_two ?_ ?_
   ·refine zo_appendO rfl (by rfl) (by decide) (want_L rfl) (by decide) rfl rfl hF.1 ((hK.take a hal).rd.no hCw2) (by omega) (by omega) (fun vw3 w3 hOw3 hXw3 hrw3=> ?_)
    have hCw3:Chg w w3 No:=hF.ch hCw2 hXw3
    refine ⟨⟨hCw3,hb.no hCw3⟩,?_⟩
    have hF:=hF.grow hCw2.size hOw3 hrw3
    obtain ⟨Aw3,cw3,hvw3,_⟩:=hF.1.rd.form
    subst hvw3
    refine zs_bs1 rfl (want_L rfl) (by decide) rfl (by rfl) (by rfl) (by decide) (by decide) (fun w4 cb hMw4=> ?_)
    have hCw4:Chg w w4 No:=hCw3.no hMw4.chg
    refine ⟨⟨hCw4,hb.no hCw4⟩,?_⟩
    have hr1:RdS w4 3 1 (.slice (some ⟨cb,0,none⟩) 1 1) 1 [.int .i64 i]:=RdS.new hMw4 rfl (by simp [Value.oneCell'])
    have hF:=hF.no hMw4.chg
    refine zs_appendO rfl (by rfl) (by decide) (want_L rfl) (by decide) rfl rfl hF.1 hr1 (by omega) (by omega) (fun vw5 w5 hOw5 hXw5 hrw5=> ?_)
    have hCw5:Chg w w5 No:=hF.ch hCw4 hXw5
    refine ⟨⟨hCw5,hb.no hCw5⟩,?_⟩
    have hF:=hF.grow hCw4.size hOw5 hrw5
    obtain ⟨Aw5,cw5,hvw5,_⟩:=hF.1.rd.form
    subst hvw5
    refine zs_appendO rfl (by rfl) (by decide) (want_L rfl) (by decide) rfl rfl hF.1 ((RdS.cut hK.rd (k:=a) hal).no hCw5) (by omega) (by omega) (fun vw6 w6 hOw6 hXw6 hrw6=> ?_)
    have hCw6:Chg w w6 No:=hF.ch hCw5 hXw6
    refine ⟨⟨hCw6,hb.no hCw6⟩,?_⟩
    have hF:=hF.grow hCw5.size hOw6 hrw6
    obtain ⟨Aw6,cw6,hvw6,_⟩:=hF.1.rd.form
    subst hvw6
    refine zz ?_
    have hO:Own w6 3 1 (.slice Aw6 (0+a+1+((N.getD j n0).kids.length - a)) cw6) (insK (N.getD j n0).kids a i).length (intC (insK (N.getD j n0).kids a i)):=by
     rw [insK_len _ _ _ hal,intC_ins]
     have e:=hF.1
     simp only [List.nil_append,Nat.mul_one,List.append_assoc,List.singleton_append] at e
     rw [hlen] at e ⊢
     exact e
    obtain ⟨bo6,co6,cells6,hv6,_,hB6,hfit6,hst6⟩:=(h.no hCw6).row j hj
    cases hv6
    refine zs_storeL (o:=j) rfl (want_L rfl) (ev_ptr rfl (by omega)) rfl rfl hB6 hfit6 (by simp [Value.cells,Value.oneCell']) (fun w7 hU7=> ?_)
    obtain ⟨g1,g2,g3,g4⟩:=hst6 _ _ hO (fun k hk he=>by have:=hF.2 k hk;have:=h.ups.lt he;omega) w7 hU7
    obtain ⟨bu,cu,cellsu,hvu,_,hBu,hfitu,hstu⟩:=g1.upset i (by rw [List.length_set];exact hi)
    rw [List.length_set] at hvu
    have hb7:=g1.blk
    cases hvu
    refine zz ?_
    refine z_store (o:=i) (want_L rfl) (ev_ptr rfl (by omega)) rfl rfl hBu hfitu (by simp [Value.cells,Value.oneCell']) (fun w8 hU8=> ?_)
    obtain ⟨k1,k2,k3⟩:=hstu _ w8 hU8
    refine zz ?_
    refine zk_ret1 (.inr rfl) rfl rfl ⟨true,_,_,rfl,k1,⟨?_,?_,fun b cells hb'=>k3 b cells (g4 b cells (hb'.no hCw6))⟩,fun _=>⟨rfl,?_⟩,fun hh=>absurd hok hh⟩
    ·exact ((hCw6.mono (fun _ _ h=>h.elim)).trans g2 (fun _ _ h=>h)).trans k2 (fun k hk hf=>(g3 k hf).elim id (fun h'=>by have:=hF.2 k h';omega))
    ·intro k hk
     exact (g3 k hk).imp id (fun h'=>hF.2 k h')
    ·have e:(placeN (ndOf N (j:Nat)).kids ahead).getD 0=a:=by show (placeN (N.getD j n0).kids ahead).getD 0=a;rw [hpl];rfl
     show _=layN N i j _
     rw [e]
     unfold layN
     rw [getD_set _ _ _ _ _ hj,if_neg hij]
   ·refine zo_bs1 rfl (want_L rfl) (by decide) rfl (by rfl) (by rfl) (by decide) (by decide) (fun w3 cb hMw3=> ?_)
    have hCw3:Chg w w3 No:=hCw2.no hMw3.chg
    refine ⟨⟨hCw3,hb.no hCw3⟩,?_⟩
    have hr1:RdS w3 3 1 (.slice (some ⟨cb,0,none⟩) 1 1) 1 [.int .i64 i]:=RdS.new hMw3 rfl (by simp [Value.oneCell'])
    have hF:=hF.no hMw3.chg
    refine zs_appendO rfl (by rfl) (by decide) (want_L rfl) (by decide) rfl rfl hF.1 ((hK.take a hal).rd.no hCw3) (by omega) (by omega) (fun vw4 w4 hOw4 hXw4 hrw4=> ?_)
    have hCw4:Chg w w4 No:=hF.ch hCw3 hXw4
    refine ⟨⟨hCw4,hb.no hCw4⟩,?_⟩
    have hr1:=hF.rd hXw4 hr1 (fun k hk he=>by simp only [Value.ownBlock,Option.some.injEq] at hk he;have:=hMw3.at_;have:=hMw2.at_;have:=hMw2.size;omega)
    have hF:=hF.grow hCw3.size hOw4 hrw4
    obtain ⟨Aw4,cw4,hvw4,_⟩:=hF.1.rd.form
    subst hvw4
    refine zs_appendO rfl (by rfl) (by decide) (want_L rfl) (by decide) rfl rfl hF.1 hr1 (by omega) (by omega) (fun vw5 w5 hOw5 hXw5 hrw5=> ?_)
    have hCw5:Chg w w5 No:=hF.ch hCw4 hXw5
    refine ⟨⟨hCw5,hb.no hCw5⟩,?_⟩
    have hF:=hF.grow hCw4.size hOw5 hrw5
    obtain ⟨Aw5,cw5,hvw5,_⟩:=hF.1.rd.form
    subst hvw5
    refine zs_appendO rfl (by rfl) (by decide) (want_L rfl) (by decide) rfl rfl hF.1 ((RdS.cut hK.rd (k:=a) hal).no hCw5) (by omega) (by omega) (fun vw6 w6 hOw6 hXw6 hrw6=> ?_)
    have hCw6:Chg w w6 No:=hF.ch hCw5 hXw6
    refine ⟨⟨hCw6,hb.no hCw6⟩,?_⟩
    have hF:=hF.grow hCw5.size hOw6 hrw6
    obtain ⟨Aw6,cw6,hvw6,_⟩:=hF.1.rd.form
    subst hvw6
    refine zz ?_
    have hO:Own w6 3 1 (.slice Aw6 (0+a+1+((N.getD j n0).kids.length - a)) cw6) (insK (N.getD j n0).kids a i).length (intC (insK (N.getD j n0).kids a i)):=by
     rw [insK_len _ _ _ hal,intC_ins]
     have e:=hF.1
     simp only [List.nil_append,Nat.mul_one,List.append_assoc,List.singleton_append] at e
     rw [hlen] at e ⊢
     exact e
    obtain ⟨bo6,co6,cells6,hv6,_,hB6,hfit6,hst6⟩:=(h.no hCw6).row j hj
    cases hv6
    refine zs_storeL (o:=j) rfl (want_L rfl) (ev_ptr rfl (by omega)) rfl rfl hB6 hfit6 (by simp [Value.cells,Value.oneCell']) (fun w7 hU7=> ?_)
    obtain ⟨g1,g2,g3,g4⟩:=hst6 _ _ hO (fun k hk he=>by have:=hF.2 k hk;have:=h.ups.lt he;omega) w7 hU7
    obtain ⟨bu,cu,cellsu,hvu,_,hBu,hfitu,hstu⟩:=g1.upset i (by rw [List.length_set];exact hi)
    rw [List.length_set] at hvu
    have hb7:=g1.blk
    cases hvu
    refine zz ?_
    refine z_store (o:=i) (want_L rfl) (ev_ptr rfl (by omega)) rfl rfl hBu hfitu (by simp [Value.cells,Value.oneCell']) (fun w8 hU8=> ?_)
    obtain ⟨k1,k2,k3⟩:=hstu _ w8 hU8
    refine zz ?_
    refine zk_ret1 (.inr rfl) rfl rfl ⟨true,_,_,rfl,k1,⟨?_,?_,fun b cells hb'=>k3 b cells (g4 b cells (hb'.no hCw6))⟩,fun _=>⟨rfl,?_⟩,fun hh=>absurd hok hh⟩
    ·exact ((hCw6.mono (fun _ _ h=>h.elim)).trans g2 (fun _ _ h=>h)).trans k2 (fun k hk hf=>(g3 k hf).elim id (fun h'=>by have:=hF.2 k h';omega))
    ·intro k hk
     exact (g3 k hk).imp id (fun h'=>hF.2 k h')
    ·have e:(placeN (ndOf N (j:Nat)).kids ahead).getD 0=a:=by show (placeN (N.getD j n0).kids ahead).getD 0=a;rw [hpl];rfl
     show _=layN N i j _
     rw [e]
     unfold layN
     rw [getD_set _ _ _ _ _ hj,if_neg hij]
  ·refine zo_bs1 rfl (want_L rfl) (by decide) rfl (by rfl) (by rfl) (by decide) (by decide) (fun w2 cb hMw2=> ?_)
   have hCw2:Chg w w2 No:=hCw1.no hMw2.chg
   refine ⟨⟨hCw2,hb.no hCw2⟩,?_⟩
   have hr1:RdS w2 3 1 (.slice (some ⟨cb,0,none⟩) 1 1) 1 [.int .i64 i]:=RdS.new hMw2 rfl (by simp [Value.oneCell'])
   refine zs_bs0 rfl (want_L rfl) (by decide) (fun w3 ca hMw3=> ?_)
   have hCw3:Chg w w3 No:=hCw2.no hMw3.chg
   refine ⟨⟨hCw3,hb.no hCw3⟩,?_⟩
   have hF:FO w.heap.size w3 (.slice (some ⟨ca,0,none⟩) 0 0) 0 []:=⟨Own.empty hMw3,fun k hk=>by simp only [Value.ownBlock,Option.some.injEq] at hk;have:=hMw3.at_;have:=hCw2.size;omega⟩
   have hr1:=hr1.no hMw3.chg
   refine zs_appendO rfl (by rfl) (by decide) (want_L rfl) (by decide) rfl rfl hF.1 ((hK.take a hal).rd.no hCw3) (by omega) (by omega) (fun vw4 w4 hOw4 hXw4 hrw4=> ?_)
   have hCw4:Chg w w4 No:=hF.ch hCw3 hXw4
   refine ⟨⟨hCw4,hb.no hCw4⟩,?_⟩
   have hr1:=hF.rd hXw4 hr1 (fun k hk he=>by simp only [Value.ownBlock,Option.some.injEq] at hk he;have:=hMw3.at_;have:=hMw2.at_;have:=hMw2.size;omega)
   have hF:=hF.grow hCw3.size hOw4 hrw4
   obtain ⟨Aw4,cw4,hvw4,_⟩:=hF.1.rd.form
   subst hvw4
   refine zs_appendO rfl (by rfl) (by decide) (want_L rfl) (by decide) rfl rfl hF.1 hr1 (by omega) (by omega) (fun vw5 w5 hOw5 hXw5 hrw5=> ?_)
   have hCw5:Chg w w5 No:=hF.ch hCw4 hXw5
   refine ⟨⟨hCw5,hb.no hCw5⟩,?_⟩
   have hF:=hF.grow hCw4.size hOw5 hrw5
   obtain ⟨Aw5,cw5,hvw5,_⟩:=hF.1.rd.form
   subst hvw5
   refine zs_appendO rfl (by rfl) (by decide) (want_L rfl) (by decide) rfl rfl hF.1 ((RdS.cut hK.rd (k:=a) hal).no hCw5) (by omega) (by omega) (fun vw6 w6 hOw6 hXw6 hrw6=> ?_)
   have hCw6:Chg w w6 No:=hF.ch hCw5 hXw6
   refine ⟨⟨hCw6,hb.no hCw6⟩,?_⟩
   have hF:=hF.grow hCw5.size hOw6 hrw6
   obtain ⟨Aw6,cw6,hvw6,_⟩:=hF.1.rd.form
   subst hvw6
   refine zz ?_
   have hO:Own w6 3 1 (.slice Aw6 (0+a+1+((N.getD j n0).kids.length - a)) cw6) (insK (N.getD j n0).kids a i).length (intC (insK (N.getD j n0).kids a i)):=by
    rw [insK_len _ _ _ hal,intC_ins]
    have e:=hF.1
    simp only [List.nil_append,Nat.mul_one,List.append_assoc,List.singleton_append] at e
    rw [hlen] at e ⊢
    exact e
   obtain ⟨bo6,co6,cells6,hv6,_,hB6,hfit6,hst6⟩:=(h.no hCw6).row j hj
   cases hv6
   refine zs_storeL (o:=j) rfl (want_L rfl) (ev_ptr rfl (by omega)) rfl rfl hB6 hfit6 (by simp [Value.cells,Value.oneCell']) (fun w7 hU7=> ?_)
   obtain ⟨g1,g2,g3,g4⟩:=hst6 _ _ hO (fun k hk he=>by have:=hF.2 k hk;have:=h.ups.lt he;omega) w7 hU7
   obtain ⟨bu,cu,cellsu,hvu,_,hBu,hfitu,hstu⟩:=g1.upset i (by rw [List.length_set];exact hi)
   rw [List.length_set] at hvu
   have hb7:=g1.blk
   cases hvu
   refine zz ?_
   refine z_store (o:=i) (want_L rfl) (ev_ptr rfl (by omega)) rfl rfl hBu hfitu (by simp [Value.cells,Value.oneCell']) (fun w8 hU8=> ?_)
   obtain ⟨k1,k2,k3⟩:=hstu _ w8 hU8
   refine zz ?_
   refine zk_ret1 (.inr rfl) rfl rfl ⟨true,_,_,rfl,k1,⟨?_,?_,fun b cells hb'=>k3 b cells (g4 b cells (hb'.no hCw6))⟩,fun _=>⟨rfl,?_⟩,fun hh=>absurd hok hh⟩
   ·exact ((hCw6.mono (fun _ _ h=>h.elim)).trans g2 (fun _ _ h=>h)).trans k2 (fun k hk hf=>(g3 k hf).elim id (fun h'=>by have:=hF.2 k h';omega))
   ·intro k hk
    exact (g3 k hk).imp id (fun h'=>hF.2 k h')
   ·have e:(placeN (ndOf N (j:Nat)).kids ahead).getD 0=a:=by show (placeN (N.getD j n0).kids ahead).getD 0=a;rw [hpl];rfl
    show _=layN N i j _
    rw [e]
    unfold layN
    rw [getD_set _ _ _ _ _ hj,if_neg hij]
  -- END rput.py
end
theorem rNew_calls {w:World}:Calls Tryz.prog 42 [].toArray w fun e w'=> ∃p vn vu vr ms ks,e= .returned (.pointer (some ⟨p,0,none⟩))∧IsR w' p vn vu vr ms ks rootN∧Chg w w' No∧ ∀k,fR p vn vu vr ks k→w.heap.size≤k:=by
 refine zCz 7 Tryz.func42 ?_
 refine zz ?_
 refine z_buildE #[.int .i64 1,.int .i64 1,.string ⟨#[]⟩,.slice none 0 0,.string ⟨#[]⟩,.int .i64 0,.slice none 0 0] (want_L rfl) (by decide) rfl (by kernel_rfl) ?_
 refine zB1 rfl (fun w1 b1 hN1=> ?_)
 refine zB1 rfl (fun w2 b2 hN2=> ?_)
 refine zB1 rfl (fun w3 b3 hN3=> ?_)
 refine z_buildE #[.slice (some ⟨b1,0,none⟩) 1 1,.slice (some ⟨b2,0,none⟩) 1 1,.slice (some ⟨b3,0,none⟩) 1 1] (want_L rfl) (by decide) rfl (by kernel_rfl) ?_
 refine zBx rfl (fun w4 b4 hN4=> ?_)
 refine zz ?_
 have h1:=hN1.at_
 have h2:=hN2.at_
 have h3:=hN3.at_
 have h4:=hN4.at_
 have hb1:Blk w1 b1 80 ([.int .i64 1,.int .i64 1,.string ⟨#[]⟩,.slice none 0 0,.string ⟨#[]⟩,.int .i64 0,.slice none 0 0]++ []):=hN1.blk
 have hb2:Blk w2 b2 3 ([.int .i64 (-1)]++ []):=hN2.blk
 have hb3:Blk w3 b3 22 ([.slice none 0 0]++ []):=hN3.blk
 have c24:=hN3.chg.no hN4.chg
 have c14:=(hN2.chg).no c24
 have s2:=hN1.chg.size
 have s3:=hN2.chg.size
 have s4:=hN3.chg.size
 refine zk_ret1 (.inr rfl) rfl rfl ⟨b4,_,_,_,[⟨1,1,⟨#[]⟩,.slice none 0 0,⟨#[]⟩,0,.slice none 0 0⟩],[.slice none 0 0],rfl,⟨hN4.blk,?_,?_,?_,rfl,rfl,fun i hi=> ?_,fun i hi=> ?_⟩,(hN1.chg.no c14),?_⟩
 ·exact Own.mk' (junk:= []) rfl (Nat.le_refl _) (by decide) (hb1.no c14) rfl (by simp [encN,MN.cells,Value.oneCell'])
 ·exact Own.mk' (junk:= []) rfl (Nat.le_refl _) (by decide) (hb2.no c24) rfl (by simp [upC,Value.oneCell',rootN])
 ·exact Own.mk' (junk:= []) rfl (Nat.le_refl _) (by decide) (hb3.no hN4.chg) rfl (by simp [Value.oneCell'])
 ·have:i=0:=by simp [rootN] at hi;omega
  subst this
  exact ⟨⟨rfl,rfl,rfl,AttrS.nil _,rfl,rfl⟩,rfl⟩
 ·have:i=0:=by simp [rootN] at hi;omega
  subst this
  exact ⟨Own.nil,fun k hk=>by cases hk⟩
 ·rintro k (hk|hk|hk|hk|⟨i,hi,hk⟩)
  ·omega
  ·simp only [Value.ownBlock,Option.some.injEq] at hk;omega
  ·simp only [Value.ownBlock,Option.some.injEq] at hk;omega
  ·simp only [Value.ownBlock,Option.some.injEq] at hk;omega
  ·have:i=0:=by simp at hi;omega
   subst this;cases hk
end Go.Proofs.YtbcmiijollpgeaaGreat.D
namespace Go.Z
open Go
section
variable {P : Program} {n : Nat} {e : Env} {w : World} {Q : Exit → Act → World → Prop} {ops : Array Oper} {rest : List Oper}
theorem z_field {d:Tmp} {ty:TypeId} {pos:String} {aft:Array Edge} {g:Option (Nat×Bool)} {s f:Nat} {x:Operand} {v u:Value} (hw:Want ops e g) (hdn:d<n) (hx:ev e x=some v) (hf:(Instr.field s v f).run P w= .ok u w) (h:ZL P n ops rest ((d,u)::e) w Q):
  ZL P n ops (⟨some d,.field s x f,ty,pos,aft,g⟩::rest) e w Q:=zl_run hw rfl hdn (fun a ha=>by simp [execOp,ha.ev hx,hf]) h
end
end Go.Z
namespace Go.Proofs.YtbcmiijollpgeaaGreat.D
open Go Go.Z Go.Proofs
structure TP where
 pd:Nat
 pm:Nat
 vn:Value
 vu:Value
 vr:Value
 ms:List MN
 ks:List Value
 vrow:Value
structure IsT (w:World) (t:Nat) (r:TP) (N:List ND) (L:List Nat):Prop where
 blk:Blk w t 74 [.pointer (some ⟨r.pd,0,none⟩),.pointer (some ⟨r.pm,0,none⟩),r.vrow,.bool false]
 doc:IsR w r.pd r.vn r.vu r.vr r.ms r.ks N
 row:Own w 3 1 r.vrow L.length (intC L)
 sep: ∀k,r.vrow.ownBlock=some k→ ¬fR r.pd r.vn r.vu r.vr r.ks k
def footT (t:Nat) (r:TP) (k:Nat):Prop:=k=t∨r.vrow.ownBlock=some k∨fR r.pd r.vn r.vu r.vr r.ks k
section
variable {w w' w1 w2 : World} {t : Nat} {r r' r1 : TP} {N N' : List ND} {L L' : List Nat} {S : Nat → Prop}
theorem IsR.noT' {p:Nat} {vn vu vr:Value} {ms:List MN} {ks:List Value} (h:IsR w p vn vu vr ms ks N) {b t:Nat} {cs:List Value} (hb:Blk w b t cs) (h1:t≠106) (h2:t≠80) (h3:t≠3) (h4:t≠22): ¬fR p vn vu vr ks b:=by
 rintro (hk|hk|hk|hk|⟨i,hi,hk⟩)
 ·exact hb.ne h.blk h1 hk
 ·exact h.own.ne hk hb (Ne.symm h2) rfl
 ·exact h.ups.ne hk hb (Ne.symm h3) rfl
 ·exact h.rws.ne hk hb (Ne.symm h4) rfl
 ·exact (h.kid i (by rw [←h.lk];exact hi)).1.ne hk hb (Ne.symm h3) rfl
theorem IsT.noT (h:IsT w t r N L) {b ty:Nat} {cs:List Value} (hb:Blk w b ty cs) (h1:ty≠106) (h2:ty≠80) (h3:ty≠3) (h4:ty≠22) (h5:ty≠74): ¬footT t r b:=by
 rintro (hk|hk|hk)
 ·exact hb.ne h.blk h5 hk
 ·exact h.row.ne hk hb (Ne.symm h3) rfl
 ·exact h.doc.noT' hb h1 h2 h3 h4 hk
theorem IsT.no (h:IsT w t r N L) (hc:Chg w w' No):IsT w' t r N L:=⟨h.blk.no hc,h.doc.no hc,h.row.no hc,h.sep⟩
theorem IsT.chg (h:IsT w t r N L) (hc:Chg w w' S) (hS: ∀k,footT t r k→ ¬S k) (h45: ∀b cells,Blk w b 45 cells→ ¬S b):IsT w' t r N L:=
 ⟨h.blk.chg hc (hS _ (.inl rfl)),h.doc.chg hc (fun k hk=>hS k (.inr (.inr hk))) h45,h.row.chg hc (fun k hk=>hS k (.inr (.inl hk))),h.sep⟩
structure WrT (w w':World) (t:Nat) (r r':TP):Prop where
 chg:Chg w w' (footT t r)
 ft: ∀k,footT t r' k→footT t r k∨w.heap.size≤k
theorem WrT.of_no (hc:Chg w w' No) (t:Nat) (r:TP):WrT w w' t r r:=⟨hc.mono (fun _ _ h=>h.elim),fun _ h=> .inl h⟩
theorem WrT.trans (h:WrT w w1 t r r1) (k:WrT w1 w2 t r1 r'):WrT w w2 t r r':=by
 refine ⟨h.chg.trans k.chg (fun i hi hf=> ?_),fun i hf=> ?_⟩
 ·rcases h.ft i hf with h1|h1
  ·exact h1
  ·omega
 ·rcases k.ft i hf with h1|h1
  ·exact h.ft i h1
  ·exact .inr (Nat.le_trans h.chg.size h1)
theorem IsT.docW (h:IsT w t r N L) {vn' vu' vr':Value} {ms':List MN} {ks':List Value} (hD:IsR w' r.pd vn' vu' vr' ms' ks' N') (hW:WrR w w' r.pd r.vn r.vu r.vr r.ks vn' vu' vr' ks'):
  IsT w' t {r with vn:=vn',vu:=vu',vr:=vr',ms:=ms',ks:=ks'} N' L∧WrT w w' t r {r with vn:=vn',vu:=vu',vr:=vr',ms:=ms',ks:=ks'}:=by
 refine ⟨⟨h.blk.chg hW.chg (h.doc.noT' h.blk (by decide) (by decide) (by decide) (by decide)),hD,h.row.chg hW.chg h.sep,fun k hk hf=> ?_⟩,⟨hW.chg.mono (fun k _ hk=> .inr (.inr hk)),?_⟩⟩
 ·rcases hW.ft k hf with h1|h1
  ·exact h.sep k hk h1
  ·have:=h.row.lt hk;omega
 ·rintro k (hk|hk|hk)
  ·exact .inl (.inl hk)
  ·exact .inl (.inr (.inl hk))
  ·exact (hW.ft k hk).imp (fun h=> .inr (.inr h)) id
theorem rsTop_calls (h:IsT w t r N L) (hL:0<L.length) (hl:L.length≤1000000):Calls Tryz.prog 46 [.pointer (some ⟨t,0,none⟩)].toArray w fun e w'=>e= .returned (.int .i64 ((L.getD (L.length - 1) 0:Nat):Int))∧Chg w w' No:=by
 have hb:=h.blk
 obtain ⟨b,o,c,hv,_,hcc⟩:=RdS.some h.row.rd hL
 have hcell:=hcc (L.length - 1) _ (intC_get L (L.length - 1) (by omega))
 rw [hv] at hb
 refine zCz 15 Tryz.func46 ?_
 refine zz ?_
 refine zc_draw [] (fun w'=>Chg w w' No∧Blk w' t 74 [.pointer (some ⟨r.pd,0,none⟩),.pointer (some ⟨r.pm,0,none⟩),.slice (some ⟨b,o,none⟩) L.length c,.bool false]) (.take 0 (.take 1 (.take 2 (.take 3 (.take 4 (.take 5 (.take 6 (.take 7 (.take 8 (.take 9 (.take 10 (.take 11 (.take 12 (.fin)))))))))))))) (by rfl) (by kernel_rfl) (by kernel_rfl) (fun w1 hC1 _=>⟨?_,?_⟩)
 ·exact ⟨hC1,hb.no hC1⟩
 refine zz ?_
 refine zRd rfl rfl (fun _ hS=>r_load1 rfl (cell_at (cell_no hS.1 hcell) (by omega))) ?_
 refine zz ?_
 exact zk_ret1 (.inr rfl) rfl rfl ⟨rfl,hC1⟩
theorem rsPlace_calls (h:IsT w t r N L) (hl:L.length≤1000000) (n:Int) (hn: ∀k,k<L.length→((L.getD k 0:Nat):Int)≠n):Calls Tryz.prog 115 [.pointer (some ⟨t,0,none⟩),.int .i64 n].toArray w fun e w'=>e= .returned (.int .i64 (-1))∧w'=w:=by
 have hb:=h.blk
 obtain ⟨A,c,hv,hc⟩:=h.row.rd.form
 rw [hv] at hb
 refine zCz 25 Tryz.func115 ?_
 refine zz ?_
 refine zc_loopW (ι:=Nat) (fun k u=> [(0,.pointer (some ⟨t,0,none⟩)),(1,.int .i64 n),(5,.int .i64 (k:Nat))]) (fun k u=>k≤L.length∧u=w) (fun k u=>L.length - k) 0 ⟨Nat.zero_le _,rfl⟩ ?_ ?_
 ·exact ⟨rfl,rfl,rfl,trivial⟩
 rintro k u ⟨hk,rfl⟩
 by_cases hlt:k<L.length
 ·obtain ⟨b,o,c',hv',_,hcc⟩:=RdS.some h.row.rd (by omega)
  rw [hv] at hv'
  cases hv'
  have hcell:=hcc k _ (intC_get L k hlt)
  have hne:=hn k hlt
  refine zz ?_
  refine zL1 rfl (cell_at hcell (by omega)) (zz ?_)
  refine zk_loopW (k+1) ⟨by omega,rfl⟩ (by omega) ⟨rfl,rfl,rfl,trivial⟩
 ·refine zz ?_
  exact zk_ret1 (.inr rfl) rfl rfl ⟨rfl,rfl⟩
theorem fld7 (w:World) (c0 c1 c2 c3 c4 c5 c6:Value):(Instr.field 80 (.agg #[c0,c1,c2,c3,c4,c5,c6]) 0).run Tryz.prog w= .ok c0 w:=by kernel_rfl
theorem rsFresh_calls (h:IsT w t r N L) (hl:L.length≤1000000) (n:Int) (hk:(nodeOf N n).kind=1) (hn: ∀k,k<L.length→((L.getD k 0:Nat):Int)≠n):Calls Tryz.prog 176 [.pointer (some ⟨t,0,none⟩),.int .i64 n].toArray w fun e w'=>e= .returned (.bool true)∧Chg w w' No:=by
 have hb:=h.blk
 refine zCz 19 Tryz.func176 ?_
 refine zz ?_
 refine zCl rfl (rNode_calls h.doc n) ?_
 rintro _ w1 ⟨va,rfl,_,hC1⟩
 refine ⟨_,rfl,?_⟩
 rw [hk]
 refine z_field (want_L rfl) (by decide) rfl (fld7 _ _ _ _ _ _ _ _) ?_
 refine zz ?_
 refine zCp rfl (rsPlace_calls (h.no hC1) hl n hn) ?_
 refine zz ?_
 exact zk_ret1 (.inr rfl) rfl rfl ⟨rfl,hC1⟩
end
section
variable {w w' w0 w1 w2 : World} {t : Nat} {r r' r1 : TP} {N N' : List ND} {L L' : List Nat} {S : Nat → Prop}
theorem IsT.rowW (h:IsT w t r N L) {v:Value} (hU:Upd w w' t 74 [.pointer (some ⟨r.pd,0,none⟩),.pointer (some ⟨r.pm,0,none⟩),v,.bool false]) (hO:Own w 3 1 v L'.length (intC L')) (hn: ∀k,v.ownBlock=some k→w0.heap.size≤k) (hC:Chg w0 w No) (h0:IsT w0 t r N L):
  IsT w' t {r with vrow:=v} N L'∧WrT w0 w' t r {r with vrow:=v}:=by
 have hR:OneT w 74 (fun k=>k=t):=fun k hk=>⟨_,hk▸h.blk⟩
 refine ⟨⟨hU.blk,h.doc.chg hU.chg (fun k hk he=>h.doc.noT' h.blk (by decide) (by decide) (by decide) (by decide) (he▸hk)) (fun b cells hb he=>absurd (hb.inj (he▸h.blk)).1 (by decide)),hO.typ hU.chg hR (by decide),fun k hk hf=> ?_⟩,⟨(hC.mono (fun _ _ h=>h.elim)).trans hU.chg (fun k _ hk=> .inl hk),?_⟩⟩
 ·have:=hn k hk
  have:=h0.doc.lt k hf
  omega
 ·rintro k (hk|hk|hk)
  ·exact .inl (.inl hk)
  ·exact .inr (hn k hk)
  ·exact .inl (.inr (.inr hk))
theorem rsPut_calls (h:IsT w t r N L) (hl:L.length≤1000000) (hL:0<L.length) (n:Nat) (hk:(nodeOf N (n:Nat)).kind=1) (hn: ∀k,k<L.length→L.getD k 0≠n):
  Calls Tryz.prog 148 [.pointer (some ⟨t,0,none⟩),.int .i64 L.length,.int .i64 n].toArray w fun e w'=>e= .returned (.bool true)∧ ∃v,IsT w' t {r with vrow:=v} N (L++ [n])∧WrT w w' t r {r with vrow:=v}:=by
 obtain ⟨Ar,cr,hv,hc⟩:=h.row.rd.form
 have hb0:=h.blk
 have hK:=h.row
 rw [hv] at hb0 hK
 refine zCz 45 Tryz.func148 ?_
 refine zz ?_
 refine zCr rfl (rsFresh_calls h hl n hk (fun k hk he=>hn k hk (by omega))) fun wa hCa=> ?_
 have hba:=hb0.no hCa
 refine zz ?_
 refine zc_draw [21] (fun w'=>Chg w w' No∧Blk w' t 74 [.pointer (some ⟨r.pd,0,none⟩),.pointer (some ⟨r.pm,0,none⟩),.slice Ar L.length cr,.bool false]) (.take 0 (.take 2 (.take 3 (.take 4 (.take 5 (.take 6 (.take 7 (.take 9 (.take 12 (.take 13 (.take 14 (.take 15 (.take 16 (.take 17 (.all2 1 (.all2 8 (.all1 10 (.all1 11 (.all1 18 (.plain 19 (.take 20 (.last 21)))))) 10 (.all1 8 (.all1 11 (.all1 18 (.plain 19 (.take 20 (.last 21))))))) 10 (.all1 1 (.all1 8 (.all1 11 (.all1 18 (.plain 19 (.take 20 (.last 21)))))))))))))))))))))) (by rfl) (by kernel_rfl) (by kernel_rfl) (fun w1 hD1 _=>⟨?_,?_⟩)
 ·exact ⟨hCa.no hD1,hba.no hD1⟩
 have hCw1:Chg w w1 No:=hCa.no hD1
 have hb:=hb0
 refine zz ?_
 refine zRd rfl rfl (fun _ hS=>r_cutTo (k:=L.length) hK.flat rfl rfl (by omega)) ?_
 refine zz ?_
 refine zRd rfl rfl (fun _ hS=>r_cutFrom (k:=L.length) rfl rfl (by omega) (by omega)) ?_
 refine zs_two ?_ ?_
 ·refine zo_bs0 rfl (want_L rfl) (by decide) (fun w2 ca hMw2=> ?_)
  have hCw2:Chg w w2 No:=hCw1.no hMw2.chg
  refine ⟨⟨hCw2,hb.no hCw2⟩,?_⟩
  have hF:FO w.heap.size w2 (.slice (some ⟨ca,0,none⟩) 0 0) 0 []:=⟨Own.empty hMw2,fun k hk=>by simp only [Value.ownBlock,Option.some.injEq] at hk;have:=hMw2.at_;have:=hCw1.size;omega⟩
  refine zs_two ?_ ?_
  ·refine zo_appendO rfl (by rfl) (by decide) (want_L rfl) (by decide) rfl rfl hF.1 ((hK.take L.length (Nat.le_refl _)).rd.no hCw2) (by omega) (by omega) (fun vw3 w3 hOw3 hXw3 hrw3=> ?_)
   have hCw3:Chg w w3 No:=hF.ch hCw2 hXw3
   refine ⟨⟨hCw3,hb.no hCw3⟩,?_⟩
   have hF:=hF.grow hCw2.size hOw3 hrw3
   obtain ⟨Aw3,cw3,hvw3,_⟩:=hF.1.rd.form
   subst hvw3
   refine zs_bs1 rfl (want_L rfl) (by decide) rfl (by rfl) (by rfl) (by decide) (by decide) (fun w4 cb hMw4=> ?_)
   have hCw4:Chg w w4 No:=hCw3.no hMw4.chg
   refine ⟨⟨hCw4,hb.no hCw4⟩,?_⟩
   have hr1:RdS w4 3 1 (.slice (some ⟨cb,0,none⟩) 1 1) 1 [.int .i64 ((n:Nat):Int)]:=RdS.new hMw4 rfl (by simp [Value.oneCell'])
   have hF:=hF.no hMw4.chg
   refine zs_appendO rfl (by rfl) (by decide) (want_L rfl) (by decide) rfl rfl hF.1 hr1 (by omega) (by omega) (fun vw5 w5 hOw5 hXw5 hrw5=> ?_)
   have hCw5:Chg w w5 No:=hF.ch hCw4 hXw5
   refine ⟨⟨hCw5,hb.no hCw5⟩,?_⟩
   have hF:=hF.grow hCw4.size hOw5 hrw5
   obtain ⟨Aw5,cw5,hvw5,_⟩:=hF.1.rd.form
   subst hvw5
   refine zs_appendO rfl (by rfl) (by decide) (want_L rfl) (by decide) rfl rfl hF.1 ((RdS.cut hK.rd (k:=L.length) (Nat.le_refl _)).no hCw5) (by omega) (by omega) (fun vw6 w6 hOw6 hXw6 hrw6=> ?_)
   have hCw6:Chg w w6 No:=hF.ch hCw5 hXw6
   refine ⟨⟨hCw6,hb.no hCw6⟩,?_⟩
   have hF:=hF.grow hCw5.size hOw6 hrw6
   obtain ⟨Aw6,cw6,hvw6,_⟩:=hF.1.rd.form
   subst hvw6
   refine zz ?_
   have hO:Own w6 3 1 (.slice Aw6 (0+L.length+1+(L.length - L.length)) cw6) (L++ [n]).length (intC (L++ [n])):=by
    have e:=hF.1
    have hil:(intC L).length=L.length*1:=intC_len L
    rw [List.nil_append,List.take_of_length_le (by omega),List.drop_of_length_le (by omega),List.append_nil] at e
    rw [show (L++ [n]).length=0+L.length+1+(L.length - L.length) by rw [List.length_append,List.length_singleton];omega,intC_app]
    exact e
   have hb6:=hb.no hCw6
   refine zs_storeL rfl (want_L rfl) rfl rfl rfl (by assumption) (by first|exact Nat.le_refl _|simp [Value.cells]) (by simp [Value.cells,Value.oneCell']) (fun w7 hU7=> ?_)
   refine zz ?_
   exact zk_ret1 (.inr rfl) rfl rfl ⟨rfl,_,(h.no hCw6).rowW hU7 hO hF.2 hCw6 h⟩
  ·refine zo_bs1 rfl (want_L rfl) (by decide) rfl (by rfl) (by rfl) (by decide) (by decide) (fun w3 cb hMw3=> ?_)
   have hCw3:Chg w w3 No:=hCw2.no hMw3.chg
   refine ⟨⟨hCw3,hb.no hCw3⟩,?_⟩
   have hr1:RdS w3 3 1 (.slice (some ⟨cb,0,none⟩) 1 1) 1 [.int .i64 ((n:Nat):Int)]:=RdS.new hMw3 rfl (by simp [Value.oneCell'])
   have hF:=hF.no hMw3.chg
   refine zs_appendO rfl (by rfl) (by decide) (want_L rfl) (by decide) rfl rfl hF.1 ((hK.take L.length (Nat.le_refl _)).rd.no hCw3) (by omega) (by omega) (fun vw4 w4 hOw4 hXw4 hrw4=> ?_)
   have hCw4:Chg w w4 No:=hF.ch hCw3 hXw4
   refine ⟨⟨hCw4,hb.no hCw4⟩,?_⟩
   have hr1:=hF.rd hXw4 hr1 (fun k hk he=>by simp only [Value.ownBlock,Option.some.injEq] at hk he;have:=hMw3.at_;have:=hMw2.at_;have:=hMw2.size;omega)
   have hF:=hF.grow hCw3.size hOw4 hrw4
   obtain ⟨Aw4,cw4,hvw4,_⟩:=hF.1.rd.form
   subst hvw4
   refine zs_appendO rfl (by rfl) (by decide) (want_L rfl) (by decide) rfl rfl hF.1 hr1 (by omega) (by omega) (fun vw5 w5 hOw5 hXw5 hrw5=> ?_)
   have hCw5:Chg w w5 No:=hF.ch hCw4 hXw5
   refine ⟨⟨hCw5,hb.no hCw5⟩,?_⟩
   have hF:=hF.grow hCw4.size hOw5 hrw5
   obtain ⟨Aw5,cw5,hvw5,_⟩:=hF.1.rd.form
   subst hvw5
   refine zs_appendO rfl (by rfl) (by decide) (want_L rfl) (by decide) rfl rfl hF.1 ((RdS.cut hK.rd (k:=L.length) (Nat.le_refl _)).no hCw5) (by omega) (by omega) (fun vw6 w6 hOw6 hXw6 hrw6=> ?_)
   have hCw6:Chg w w6 No:=hF.ch hCw5 hXw6
   refine ⟨⟨hCw6,hb.no hCw6⟩,?_⟩
   have hF:=hF.grow hCw5.size hOw6 hrw6
   obtain ⟨Aw6,cw6,hvw6,_⟩:=hF.1.rd.form
   subst hvw6
   refine zz ?_
   have hO:Own w6 3 1 (.slice Aw6 (0+L.length+1+(L.length - L.length)) cw6) (L++ [n]).length (intC (L++ [n])):=by
    have e:=hF.1
    have hil:(intC L).length=L.length*1:=intC_len L
    rw [List.nil_append,List.take_of_length_le (by omega),List.drop_of_length_le (by omega),List.append_nil] at e
    rw [show (L++ [n]).length=0+L.length+1+(L.length - L.length) by rw [List.length_append,List.length_singleton];omega,intC_app]
    exact e
   have hb6:=hb.no hCw6
   refine zs_storeL rfl (want_L rfl) rfl rfl rfl (by assumption) (by first|exact Nat.le_refl _|simp [Value.cells]) (by simp [Value.cells,Value.oneCell']) (fun w7 hU7=> ?_)
   refine zz ?_
   exact zk_ret1 (.inr rfl) rfl rfl ⟨rfl,_,(h.no hCw6).rowW hU7 hO hF.2 hCw6 h⟩
 ·refine zo_bs1 rfl (want_L rfl) (by decide) rfl (by rfl) (by rfl) (by decide) (by decide) (fun w2 cb hMw2=> ?_)
  have hCw2:Chg w w2 No:=hCw1.no hMw2.chg
  refine ⟨⟨hCw2,hb.no hCw2⟩,?_⟩
  have hr1:RdS w2 3 1 (.slice (some ⟨cb,0,none⟩) 1 1) 1 [.int .i64 ((n:Nat):Int)]:=RdS.new hMw2 rfl (by simp [Value.oneCell'])
  refine zs_bs0 rfl (want_L rfl) (by decide) (fun w3 ca hMw3=> ?_)
  have hCw3:Chg w w3 No:=hCw2.no hMw3.chg
  refine ⟨⟨hCw3,hb.no hCw3⟩,?_⟩
  have hF:FO w.heap.size w3 (.slice (some ⟨ca,0,none⟩) 0 0) 0 []:=⟨Own.empty hMw3,fun k hk=>by simp only [Value.ownBlock,Option.some.injEq] at hk;have:=hMw3.at_;have:=hCw2.size;omega⟩
  have hr1:=hr1.no hMw3.chg
  refine zs_appendO rfl (by rfl) (by decide) (want_L rfl) (by decide) rfl rfl hF.1 ((hK.take L.length (Nat.le_refl _)).rd.no hCw3) (by omega) (by omega) (fun vw4 w4 hOw4 hXw4 hrw4=> ?_)
  have hCw4:Chg w w4 No:=hF.ch hCw3 hXw4
  refine ⟨⟨hCw4,hb.no hCw4⟩,?_⟩
  have hr1:=hF.rd hXw4 hr1 (fun k hk he=>by simp only [Value.ownBlock,Option.some.injEq] at hk he;have:=hMw3.at_;have:=hMw2.at_;have:=hMw2.size;omega)
  have hF:=hF.grow hCw3.size hOw4 hrw4
  obtain ⟨Aw4,cw4,hvw4,_⟩:=hF.1.rd.form
  subst hvw4
  refine zs_appendO rfl (by rfl) (by decide) (want_L rfl) (by decide) rfl rfl hF.1 hr1 (by omega) (by omega) (fun vw5 w5 hOw5 hXw5 hrw5=> ?_)
  have hCw5:Chg w w5 No:=hF.ch hCw4 hXw5
  refine ⟨⟨hCw5,hb.no hCw5⟩,?_⟩
  have hF:=hF.grow hCw4.size hOw5 hrw5
  obtain ⟨Aw5,cw5,hvw5,_⟩:=hF.1.rd.form
  subst hvw5
  refine zs_appendO rfl (by rfl) (by decide) (want_L rfl) (by decide) rfl rfl hF.1 ((RdS.cut hK.rd (k:=L.length) (Nat.le_refl _)).no hCw5) (by omega) (by omega) (fun vw6 w6 hOw6 hXw6 hrw6=> ?_)
  have hCw6:Chg w w6 No:=hF.ch hCw5 hXw6
  refine ⟨⟨hCw6,hb.no hCw6⟩,?_⟩
  have hF:=hF.grow hCw5.size hOw6 hrw6
  obtain ⟨Aw6,cw6,hvw6,_⟩:=hF.1.rd.form
  subst hvw6
  refine zz ?_
  have hO:Own w6 3 1 (.slice Aw6 (0+L.length+1+(L.length - L.length)) cw6) (L++ [n]).length (intC (L++ [n])):=by
   have e:=hF.1
   have hil:(intC L).length=L.length*1:=intC_len L
   rw [List.nil_append,List.take_of_length_le (by omega),List.drop_of_length_le (by omega),List.append_nil] at e
   rw [show (L++ [n]).length=0+L.length+1+(L.length - L.length) by rw [List.length_append,List.length_singleton];omega,intC_app]
   exact e
  have hb6:=hb.no hCw6
  refine zs_storeL rfl (want_L rfl) rfl rfl rfl (by assumption) (by first|exact Nat.le_refl _|simp [Value.cells]) (by simp [Value.cells,Value.oneCell']) (fun w7 hU7=> ?_)
  refine zz ?_
  exact zk_ret1 (.inr rfl) rfl rfl ⟨rfl,_,(h.no hCw6).rowW hU7 hO hF.2 hCw6 h⟩
end
section
variable {w w' w0 w1 w2 : World} {t : Nat} {r r' r1 : TP} {N N' : List ND} {L L' : List Nat} {S : Nat → Prop}
theorem rsPush_calls (h:IsT w t r N L) (hl:L.length≤1000000) (hL:0<L.length) (n:Nat) (hk:(nodeOf N (n:Nat)).kind=1) (hn: ∀k,k<L.length→L.getD k 0≠n):
  Calls Tryz.prog 121 [.pointer (some ⟨t,0,none⟩),.int .i64 n].toArray w fun e w'=>e= .returned (.bool true)∧ ∃v,IsT w' t {r with vrow:=v} N (L++ [n])∧WrT w w' t r {r with vrow:=v}:=by
 obtain ⟨Ar,cr,hv,hc⟩:=h.row.rd.form
 have hb:=h.blk
 rw [hv] at hb
 refine zCz 13 Tryz.func121 ?_
 refine zz ?_
 refine zCr rfl (rsPut_calls h hl hL n hk hn) fun w1 h1=> ?_
 refine zz ?_
 exact zk_ret1 (.inr rfl) rfl rfl ⟨rfl,h1⟩
theorem rsSpot_calls (h:IsT w t r N L) (n:Int):Calls Tryz.prog 79 [.pointer (some ⟨t,0,none⟩),.int .i64 n].toArray w fun e w'=>e= .returned (.tuple #[.int .i64 n,.int .i64 (-1)])∧w'=w:=by
 have hb:=h.blk
 refine zCz 86 Tryz.func79 ?_
 refine zz ?_
 exact zk_ret2 (.inr rfl) rfl rfl rfl ⟨rfl,rfl⟩
theorem rsLay_calls (h:IsT w t r N L) (hW:WF N) (hl:N.length≤10000000) (n up:Int):Calls Tryz.prog 50 [.pointer (some ⟨t,0,none⟩),.int .i64 n,.int .i64 up].toArray w fun e w'=>e= .returned (.tuple #[])∧ ∃r' p N',(r'.pm=r.pm∧r'.vrow=r.vrow)∧PutR N n up (-1) p N'∧IsT w' t r' N' L∧WrT w w' t r r':=by
 have hb:=h.blk
 refine zCz 22 Tryz.func50 ?_
 refine zz ?_
 refine zCp rfl (rsSpot_calls h up) ?_
 refine zz ?_
 refine zCl rfl (rPut_calls h.doc hW hl n up (-1)) ?_
 rintro _ w1 ⟨p,ks',N',rfl,hI,hWr,hR⟩
 refine ⟨_,rfl,?_⟩
 obtain ⟨g1,g2⟩:=h.docW hI hWr
 refine zN ?_
 exact zk_ret0 (.inl rfl) rfl ⟨rfl,{r with ks:=ks'},p,N',⟨rfl,rfl⟩,hR,g1,g2⟩
theorem rmNew_calls:Calls Tryz.prog 43 [].toArray w fun x w'=> ∃b,x= .returned (.pointer (some ⟨b,0,none⟩))∧New w w' b 121 [.slice none 0 0]:=by
 refine zCz 3 Tryz.func43 ?_
 refine zz ?_
 refine z_buildE #[.slice none 0 0] (want_L rfl) (by decide) rfl (by kernel_rfl) ?_
 refine zBx rfl (fun w1 b1 hN1=> ?_)
 refine zz ?_
 exact zk_ret1 (.inr rfl) rfl rfl ⟨b1,rfl,hN1⟩
end
theorem rTree_calls {N:List ND} (hW:WF N) (hl:N.length≤10000000): ∀(f:Nat) {w:World} {p:Nat} {vn vu vr:Value} {ms:List MN} {ks:List Value} (h:IsR w p vn vu vr ms ks N) (n:Nat) (hn:n<N.length) (t:NT),TF N (N.getD n n0).kids t→t.size≤f→
  Calls Tryz.prog 26 [.pointer (some ⟨p,0,none⟩),.int .i64 n].toArray w fun e w'=> ∃vo,e= .returned vo∧TreeOk w' (fun b=>w.heap.size≤b) (fun _=>True) vo t∧Chg w w' No:=by
 intro f
 induction f with
 |zero=>
  intro w p vn vu vr ms ks h n hn t ht hf
  have hk0:(N.getD n n0).kids.length=0:=by rw [←ht.len];have:=t.len_size;omega
  have ht0:t= .nil:=by cases t with
   |nil=>rfl
   |cons x k r=>simp [NT.size] at hf
  subst ht0
  obtain ⟨br,or',cr,Ak,ck,hvr,hcr,hks,hck⟩:=h.kd n hn
  have hb:=h.blk
  rw [hvr] at hb
  refine zCz 59 Tryz.func26 ?_
  refine zz ?_
  refine zCp rfl (rIs_calls h n) ?_
  rw [decide_eq_true (show isN N n from ⟨by omega,by omega⟩)]
  refine zz ?_
  refine zc_loopW (ι:=Nat) (fun k u=> [(0,.pointer (some ⟨p,0,none⟩)),(1,.int .i64 n),(5,.slice none 0 0),(6,.int .i64 k)]) (fun k u=>k=0∧u=w) (fun k u=>k) 0 ⟨rfl,rfl⟩ ?_ ?_
  ·exact ⟨rfl,rfl,rfl,rfl,trivial⟩
  rintro k u ⟨rfl,hu⟩
  obtain rfl:=hu.symm
  refine zz ?_
  refine zL1 rfl (cell_at hcr (by omega)) (zz ?_)
  exact zk_ret1 (.inr rfl) rfl rfl ⟨_,rfl,TreeOk.nil,Chg.refl _ _⟩
 |succ f ih=>
  intro w p vn vu vr ms ks h n hn t ht hf
  have htl:=ht.len
  have hkl:=hW.kids_len hn
  obtain ⟨br,or',cr,Ak,ck,hvr,hcr,hks,hck⟩:=h.kd n hn
  have hK:=(h.kid n hn).1.rd
  rw [hks] at hK
  have hb:=h.blk
  rw [hvr] at hb
  refine zCz 59 Tryz.func26 ?_
  refine zz ?_
  refine zCp rfl (rIs_calls h n) ?_
  rw [decide_eq_true (show isN N n from ⟨by omega,by omega⟩)]
  refine zz ?_
  refine zc_loopW (ι:=Nat×Value×NT) (fun q u=> [(0,.pointer (some ⟨p,0,none⟩)),(1,.int .i64 n),(5,q.2.1),(6,.int .i64 q.1)])
   (fun q u=>q.1≤t.len∧Out w.heap.size (fun _=>True) u q.2.1 q.2.2∧q.2.2.len=q.1∧q.2.2.app (t.dropN q.1)=t∧Chg w u No) (fun q u=>t.len - q.1) (0,.slice none 0 0,.nil)
   ⟨Nat.zero_le _,Out.nil,rfl,rfl,Chg.refl _ _⟩ ?_ ?_
  ·exact ⟨rfl,rfl,rfl,rfl,trivial⟩
  rintro ⟨i,vo,T⟩ u ⟨hi,hOut,hTl,hd,hC⟩
  dsimp only at hi hOut hTl hd ⊢
  have hbu:=hb.no hC
  have hcru:=cell_no hC hcr
  by_cases hlt:i<t.len
  ·obtain ⟨bk,ok,ck',hvk,_,hck2⟩:=RdS.some hK (by omega)
   cases hvk
   have hcell:=cell_no hC (hck2 i _ (intC_get _ i (by omega)))
   have hik:i<(N.getD n n0).kids.length:=by omega
   have hdr:=ht.drop i
   have hdc:(N.getD n n0).kids.drop i=(N.getD n n0).kids.getD i 0::(N.getD n n0).kids.drop (i+1):=drop_cons 0 _ _ hik
   rw [hdc] at hdr
   have hkn:(N.getD n n0).kids.getD i 0<N.length:=((hW.kid n _ hn).1 (getD_mem hik)).1
   obtain ⟨nk,hnke⟩: ∃nk,nk=(N.getD n n0).kids.getD i 0:=⟨_,rfl⟩
   rw [←hnke] at hcell hdr hkn
   have hsz:=t.drop_size i
   have e1: ∃tk tr,t.dropN i= .cons (hdOf (N.getD nk n0)) tk tr∧TF N (N.getD nk n0).kids tk:=by
    generalize t.dropN i=s at hdr
    cases hdr with
    |cons _ _ tk tr h1 h2=>exact ⟨tk,tr,rfl,h1⟩
   obtain ⟨tk,tr,e1,htk⟩:=e1
   rw [e1] at hsz
   simp only [NT.size] at hsz
   obtain ⟨bn,on,cn,An,hvn,hnd,hAn⟩:=(h.no hC).nd nk hkn
   obtain ⟨A4,c4,rfl,_⟩:=hAn.form
   rw [hvn] at hbu
   refine zz ?_
   refine zL1 rfl (cell_at hcru (by omega)) (zz ?_)
   refine zc_draw [17] (fun w'=>Chg u w' No∧Blk w' p 106 [.slice (some ⟨bn,on,none⟩) N.length cn,vu,.slice (some ⟨br,or',none⟩) N.length cr]) (.take 0 (.take 1 (.take 2 (.take 3 (.take 4 (.take 5 (.take 6 (.take 7 (.take 8 (.take 9 (.take 10 (.take 11 (.take 12 (.take 13 (.take 14 (.take 15 (.all1 16 (.last 17)))))))))))))))))) (by rfl) (by kernel_rfl) (by kernel_rfl) (fun u1 hCu1 _=>⟨?_,?_⟩)
   ·exact ⟨hCu1,hbu.no hCu1⟩
   refine zz ?_
   refine zRd rfl rfl (fun _ hS=>r_load1 rfl (cell_at (cell_no hS.1 hcru) (by omega))) ?_
   refine zz ?_
   refine zRd rfl rfl (fun _ hS=>r_load1 rfl (cell_at (cell_no hS.1 hcell) (by omega))) ?_
   refine zz ?_
   refine zRd rfl rfl (fun _ hS=>r_loadA rfl rfl ((hnd.no hS.1).agg (by omega))) ?_
   refine zs_alloc rfl (want_L rfl) (by decide) (fun u2 b2 hN2=> ?_)
   have hCu2:Chg u u2 No:=hCu1.no hN2.chg
   refine ⟨⟨hCu2,hbu.no hCu2⟩,?_⟩
   have hb2:Blk u2 b2 80 [.int .i64 0,.int .i64 0,.string ⟨#[]⟩,.slice none 0 0,.string ⟨#[]⟩,.int .i64 0,.slice none 0 0]:=hN2.blk
   refine zs_storeL rfl (want_L rfl) rfl rfl rfl (by assumption) (by first|exact Nat.le_refl _|simp [Value.cells]) (by simp [Value.cells,Value.oneCell']) (fun u3 hU3=> ?_)
   have hb3:Blk u3 b2 80 [.int .i64 (N.getD nk n0).kind,.int .i64 (N.getD nk n0).space,.string (N.getD nk n0).name,.slice A4 (N.getD nk n0).attrs.length c4,.string (bs (N.getD nk n0).text),.int .i64 0,.slice none 0 0]:=hU3.blk
   have hge2:u.heap.size≤b2:=by have:=hN2.at_;have:=hCu1.size;omega
   have hC3:Chg u u3 No:=hCu2.upd hU3 hge2
   have hA3:AttrS u3 (.slice A4 (N.getD nk n0).attrs.length c4) (N.getD nk n0).attrs:=hAn.no hC3
   have hbu3:=hbu.no hC3
   have hcru3:=cell_no hC3 hcru
   have hcell3:=cell_no hC3 hcell
   refine zz ?_
   refine zL1 rfl (cell_at hcru3 (by omega)) (zz ?_)
   refine zL1 rfl (cell_at hcell3 (by omega)) ?_
   refine zCl rfl (ih (h.no (hC.no hC3)) nk hkn tk htk (by omega)) ?_
   rintro _ u4 ⟨v4,rfl,hT4,hC4⟩
   refine ⟨_,rfl,?_⟩
   obtain ⟨A5,c5,rfl,_⟩:=hT4.at'.form
   have hb4:=hb3.no hC4
   have hs3:=hC3.size
   have hs4:=hC4.size
   have hlt2:=hb3.lt
   refine zfa rfl ?_
   refine z_store (want_L rfl) rfl rfl rfl (by assumption) (by first|exact Nat.le_refl _|simp [Value.cells]) (by simp [Value.cells,Value.oneCell']) (fun u5 hU5=> ?_)
   have hb5:Blk u5 b2 80 [.int .i64 (N.getD nk n0).kind,.int .i64 (N.getD nk n0).space,.string (N.getD nk n0).name,.slice A4 (N.getD nk n0).attrs.length c4,.string (bs (N.getD nk n0).text),.int .i64 0,.slice A5 tk.len c5]:=hU5.blk
   have hC5:Chg u u5 No:=(hC3.no hC4).upd hU5 hge2
   have hT5:=hT4.chg hU5.chg (fun b _ _ hk he=>by omega) (fun b cells hk _ he=>hk.ne hb4 (by decide) he)
   have ha5:AttrS u5 (.slice A4 (N.getD nk n0).attrs.length c4) (N.getD nk n0).attrs:=hAn.no hC5
   have hOut5:=hOut.no hC5
   have hvlt: ∀k,vo.ownBlock=some k→k<u.heap.size:=fun k hk=>by obtain ⟨ms,g1,_,_⟩:=hOut;exact g1.lt hk
   obtain ⟨A0,c0,hv0,hc0⟩:=hOut.form
   obtain ⟨mz,g1,g2,g3⟩:=hOut5
   have hml:=Rows.len _ mz (RowsOk.rows _ mz g3)
   have hBu:w.heap.size≤u.heap.size:=hC.size
   refine zz ?_
   refine zB1 rfl (fun u10 b10 hN10=> ?_)
   have hx9:HR u5 ⟨(N.getD nk n0).kind,(N.getD nk n0).space,(N.getD nk n0).name,.slice A4 (N.getD nk n0).attrs.length c4,bs (N.getD nk n0).text,0,.slice A5 tk.len c5⟩ (hdOf (N.getD nk n0)):=⟨rfl,rfl,rfl,ha5,rfl,rfl⟩
   have hR:RdS u10 80 7 (.slice (some ⟨b10,0,none⟩) 1 1) 1 (encN [⟨(N.getD nk n0).kind,(N.getD nk n0).space,(N.getD nk n0).name,.slice A4 (N.getD nk n0).attrs.length c4,bs (N.getD nk n0).text,0,.slice A5 tk.len c5⟩]):=by
    obtain ⟨kz,h1,_,_⟩:=hT5
    exact RdS.node hx9 h1 hN10
   refine z_appendO (by rfl) (by decide) (want_L rfl) (by decide) rfl rfl (g1.no hN10.chg) hR (by omega) (by omega) (fun v11 u11 hO11 hC11 hr11=> ?_)
   have hOut11:=Out.push g1 g2 g3 hx9 (by intro hl b hb;trivial)
    (hT5.mono (fun b hb hk=>⟨by omega,fun he=>by have:=hvlt b he;omega⟩) (fun b hb hk=>trivial)) (Nat.le_trans hBu hC5.size) hN10.chg hO11 hC11 hr11
   refine zz ?_
   refine zk_loopW (i+1,v11,T.snoc (hdOf (N.getD nk n0)) tk) ⟨by omega,hOut11,by rw [NT.snoc_len,hTl],?_,?_⟩ (by show t.len - (i+1)<t.len - i;omega) ⟨rfl,rfl,rfl,get_int rfl (by simp),trivial⟩
   ·dsimp only
    rw [t.drop_succ i _ tk tr e1,NT.snoc_app,←e1];exact hd
   ·refine ((hC.trans hC5 (fun _ _ h=>h)).no hN10.chg).trans hC11 (fun i hi he=> ?_)
    have:=g2 i he;omega
  ·obtain rfl:i=t.len:=by omega
   rw [t.drop_len,NT.app_nil] at hd
   subst hd
   obtain ⟨Ao,co,hvo,_⟩:=hOut.form
   subst hvo
   refine zz ?_
   refine zL1 rfl (cell_at hcru (by omega)) (zz ?_)
   exact zk_ret1 (.inr rfl) rfl rfl ⟨_,rfl,hOut.tree,hC⟩
end Go.Proofs.YtbcmiijollpgeaaGreat.D
namespace Go.Z
open Go
section
variable {P : Program} {n : Nat} {e : Env} {w : World} {Q : Exit → Act → World → Prop} {ops : Array Oper} {ks : List Nat} {S : World → Prop}
theorem zs_plainR {i:Nat} {o:Oper} {d:Tmp} {v:Value} {r:Ord} (hi:ops[i]? =some o) (hw:Want ops e o.guard) (hd:o.dst=some d) (hdn:d<n) (hr: ∀w',Rd P n e w' o v) (h:ZS P n ops ks S r ((d,v)::e) w Q):ZS P n ops ks S (.plain i r) e w Q:=by
 unfold ZS at*
 intro hsel hS a ha fuel listed hok
 cases fuel with
 |zero=>simp [okOrd] at hok
 |succ f=>
  simp only [okOrd,Bool.and_eq_true] at hok
  obtain ⟨⟨⟨h1,h2⟩,h4⟩,h3⟩:=hok
  have h5: ∀k∈ks,k≠i:=fun k hk=>by
   have:=List.all_eq_true.1 h4 k hk
   simpa using this
  exact wpAnyK_plain hi (Region.noSelect_spec hsel) (fun c a w hq=>hq) h5 f listed a w (Region.free_spec hi h2) (by simpa using h1) (.inl ⟨hw.wanted ha,fun w' _=>hr w' a ha⟩) (fun _=>hS) (h hsel hS _ (by rw [hd];exact ha.put d v hdn) f _ h3)
end
end Go.Z
namespace Go.Proofs.YtbcmiijollpgeaaGreat.D
open Go Go.Z Go.Proofs
section
variable {w : World} {p : Nat} {vn vu vr va : Value} {ms : List MN} {ks : List Value} {N : List ND}
theorem rWrite_calls (h:IsR w p vn vu vr ms ks N) (hW:WF N) (hl:N.length≤9999999) (s:List UInt8) (hs:s.length≤10000000) (ht: ∀i,(N.getD i n0).text.length≤1000000000) (up ahead:Int):
  Calls Tryz.prog 80 [.pointer (some ⟨p,0,none⟩),.string (bs s),.int .i64 up,.int .i64 ahead].toArray w fun e w'=> ∃q vn' vu' vr' ms' ks' N',e= .returned (.bool q)∧IsR w' p vn' vu' vr' ms' ks' N'∧WrR w w' p vn vu vr ks vn' vu' vr' ks'∧WriteR N s up ahead q N':=by
 have bad: ¬WriteOk N up ahead→ ∃q vn' vu' vr' ms' ks' N',(Ending.returned (.bool false))= .returned (.bool q)∧IsR w p vn' vu' vr' ms' ks' N'∧WrR w w p vn vu vr ks vn' vu' vr' ks'∧WriteR N s up ahead q N':=fun hn=>⟨false,vn,vu,vr,ms,ks,N,rfl,h,WrR.refl _ _ _ _ _ _,fun hh=>absurd hh hn,fun _=>⟨rfl,rfl⟩⟩
 refine zCz 70 Tryz.func80 ?_
 refine zz ?_
 refine zCp rfl (rElem_calls h up) ?_
 by_cases h2:isN N up∧(ndOf N up).kind=1
 rotate_left
 ·rw [decide_eq_false h2]
  refine zz ?_
  exact zk_ret1 (.inr rfl) rfl rfl (bad (fun hh=>h2 ⟨hh.1,hh.2.1⟩))
 rw [decide_eq_true h2]
 obtain ⟨j,rfl⟩:=Int.eq_ofNat_of_zero_le h2.1.1
 have hj:j<N.length:=by have:=h2.1.2;omega
 have hkj:=hW.kids_len hj
 refine zz ?_
 refine zCp rfl (rPlace_calls h hW j hj ahead (by omega)) ?_
 cases hpl:placeN (N.getD j n0).kids ahead with
 |none=>
  dsimp only [plI]
  refine zz ?_
  exact zk_ret1 (.inr rfl) rfl rfl (bad (fun hh=>by
   have:(placeN (N.getD j n0).kids ahead).isSome=true:=hh.2.2
   rw [hpl] at this;cases this))
 |some a=>
  have hok:WriteOk N j ahead:=⟨h2.1,h2.2,by show (placeN (N.getD j n0).kids ahead).isSome=true;rw [hpl];rfl⟩
  have hal:=placeN_le hpl
  have hpe:(placeN (ndOf N (j:Nat)).kids ahead).getD 0=a:=by show (placeN (N.getD j n0).kids ahead).getD 0=a;rw [hpl];rfl
  dsimp only [plI]
  refine zz ?_
  refine zEq (r:= []) rfl rfl (fun hse=> ?_) (fun hse=> ?_)
  ·refine zz ?_
   refine zk_ret1 (.inr rfl) rfl rfl ⟨true,_,_,_,_,_,N,rfl,h,WrR.refl _ _ _ _ _ _,fun _=>⟨rfl,?_⟩,fun hh=>absurd hok hh⟩
   rw [hpe];unfold writeN;rw [if_pos hse]
  have hlt:N.length<(N++ [textN s]).length:=by simp
  have put: ∀{u:World} {ms0:List MN} {ks0:List Value} {vn0 vu0 vr0:Value},IsR u p vn0 vu0 vr0 ms0 ks0 (N++ [textN s])→Calls Tryz.prog 82 [.pointer (some ⟨p,0,none⟩),.int .i64 N.length,.int .i64 j,.int .i64 ahead].toArray u fun e w'=> ∃ks',e= .returned (.bool true)∧IsR w' p vn0 vu0 vr0 ms0 ks' (layN (N++ [textN s]) N.length j a)∧WrR u w' p vn0 vu0 vr0 ks0 vn0 vu0 vr0 ks':=fun {u ms0 ks0 vn0 vu0 vr0} hR=>by
   have hW1:=hW.add (x:=textN s) rfl rfl
   have hxn:(N++ [textN s]).getD N.length n0=textN s:=by rw [getD_add,if_pos rfl]
   have hxj:(N++ [textN s]).getD j n0=N.getD j n0:=by rw [getD_add,if_neg (by omega)]
   have hp0:=hW.pos
   have hok2:PutOk (N++ [textN s]) (N.length:Nat) (j:Nat) ahead:=by
    refine ⟨⟨by omega,by omega⟩,⟨by omega,by omega⟩,?_,by omega,?_,fun ha=> ?_,?_⟩
    ·show ((N++ [textN s]).getD j n0).kind=1
     rw [hxj];exact h2.2
    ·show ((N++ [textN s]).getD N.length n0).up<0
     rw [hxn];show (-1:Int)<0;omega
    ·have:=Anc.fresh hW1 (n:=j) (top:=N.length) (by omega) (by rw [hxn];rfl) ha
     omega
    ·show (placeN ((N++ [textN s]).getD j n0).kids ahead).isSome=true
     rw [hxj,hpl];rfl
   refine (rPut_calls hR hW1 (by rw [List.length_append];simp only [List.length_singleton];omega) (N.length:Nat) (j:Nat) ahead).mono fun e w' ⟨q,ks',N',he,g1,g2,g3⟩=> ?_
   obtain ⟨rfl,rfl⟩:=g3.1 hok2
   refine ⟨ks',he,?_,g2⟩
   have e:(placeN (ndOf (N++ [textN s]) (j:Nat)).kids ahead).getD 0=a:=by show (placeN ((N++ [textN s]).getD j n0).kids ahead).getD 0=a;rw [hxj,hpl];rfl
   rw [e] at g1
   exact g1
  have hvn:=h.formN
  obtain ⟨br,or',cr,Ak,ck,hvr,hcr,hks,hck⟩:=h.kd j hj
  have hK:=(h.kid j hj).1
  rw [hks] at hK
  have hb:=h.blk
  rw [hvr] at hb
  by_cases ha0:a=0
  ·subst ha0
   have hcnd: ¬(0<0∧(N.getD (lastK N j 0) n0).kind=2):=fun hh=>absurd hh.1 (by omega)
   refine zz ?_
   refine z_buildE #[.int .i64 2,.int .i64 0,.string ⟨#[]⟩,.slice none 0 0,.string (bs s),.int .i64 0,.slice none 0 0] (want_L rfl) (by decide) rfl (by kernel_rfl) ?_
   refine zCl rfl (rLay_calls (va:= .slice none 0 0) h (by omega) (textN s) rfl rfl (AttrS.nil _)) ?_
   rintro _ u1 ⟨rfl,vn1,vu1,vr1,ms1,ks1,g1,g2⟩
   refine ⟨_,rfl,?_⟩
   refine zP rfl (zP rfl ?_)
   refine zCl rfl (put g1) ?_
   rintro _ u2 ⟨ks2,rfl,g3,g4⟩
   refine ⟨_,rfl,?_⟩
   refine zz ?_
   refine zk_ret1 (.inr rfl) rfl rfl ⟨true,_,_,_,_,_,_,rfl,g3,g2.trans g4,fun _=>⟨rfl,?_⟩,fun hh=>absurd hok hh⟩
   rw [hpe];show _=writeN N s j _;unfold writeN;rw [if_neg hse,if_neg hcnd]
  ·obtain ⟨bk,ok,ck',hvk,_,hck2⟩:=RdS.some hK.rd (by omega)
   cases hvk
   have hcell:=hck2 (a - 1) _ (intC_get _ (a - 1) (by omega))
   have hkm:(N.getD j n0).kids.getD (a - 1) 0<N.length:=lastK_lt hW hj (by omega) hal
   obtain ⟨k,hkk⟩: ∃k,k=(N.getD j n0).kids.getD (a - 1) 0:=⟨_,rfl⟩
   rw [←hkk] at hcell hkm
   have hlk:lastK N j a=k:=hkk.symm
   obtain ⟨bn,on,cn,An,hvn',hnd,hAn⟩:=h.nd k hkm
   rw [hvn'] at hb
   have hc0:=hnd.c0
   have hc4:=hnd.c4
   have htk:=ht k
   refine zz ?_
   refine zL1 rfl (cell_at hcr (by omega)) (zz ?_)
   refine zL1 rfl (cell_at hcell (by omega)) (zz ?_)
   refine z_cmpB (r:=decide ((N.getD k n0).kind=2)) (want_L rfl) (by decide) rfl rfl rfl (by simp [hdOf]) ?_
   by_cases hk2:(N.getD k n0).kind=2
   ·have hcnd:0<a∧(N.getD (lastK N j a) n0).kind=2:=⟨by omega,by rw [hlk];exact hk2⟩
    obtain ⟨bo,co,cells,hvo,_,hB,hfit,hst⟩:=h.txset k hkm
    rw [hvn'] at hvo
    cases hvo
    rw [decide_eq_true hk2]
    refine zz ?_
    refine zc_draw [17] (fun w'=>Chg w w' No∧Blk w' p 106 [.slice (some ⟨bn,0,none⟩) N.length cn,vu,.slice (some ⟨br,or',none⟩) N.length cr]) (.take 0 (.take 1 (.take 2 (.take 3 (.take 4 (.take 5 (.take 6 (.take 7 (.take 8 (.take 9 (.take 10 (.take 11 (.take 12 (.take 13 (.take 14 (.plain 15 (.take 16 (.last 17)))))))))))))))))) (by rfl) (by kernel_rfl) (by kernel_rfl) (fun w1 hCw1 _=>⟨?_,?_⟩)
    ·exact ⟨hCw1,hb.no hCw1⟩
    obtain ⟨bo',co',cells',hvo',_,hB',hfit',hst'⟩:=(h.no hCw1).txset k hkm
    rw [hvn'] at hvo'
    cases hvo'
    refine zz ?_
    refine zRd rfl rfl (fun _ hS=>r_load1 rfl (cell_at (cell_no hS.1 hc4) (by omega))) ?_
    refine zz ?_
    refine zs_plainR rfl (want_L rfl) rfl (by decide) (fun _=>r_ia rfl rfl (by omega) (by omega)) ?_
    refine zRd rfl rfl (fun _ hS=>r_fa rfl) ?_
    refine zs_storeL (o:=k*7+4) rfl (want_L rfl) (ev_ptr rfl (by omega)) rfl rfl hB' hfit' (by simp [Value.cells,Value.oneCell']) (fun w7 hU7=> ?_)
    obtain ⟨ms',g1,g2,g3⟩:=hst' _ w7 hU7
    refine zz ?_
    refine zk_ret1 (.inr rfl) rfl rfl ⟨true,_,_,_,_,_,_,rfl,g1,⟨?_,fun k hk=> .inl hk,fun b cells hb'=>g3 b cells (hb'.no hCw1)⟩,fun _=>⟨rfl,?_⟩,fun hh=>absurd hok hh⟩
    ·exact (hCw1.mono (fun _ _ h=>h.elim)).trans g2 (fun _ _ h=>h)
    ·rw [hpe];show _=writeN N s j _;unfold writeN;rw [if_neg hse,if_pos hcnd,hlk]
   ·have hcnd: ¬(0<a∧(N.getD (lastK N j a) n0).kind=2):=fun hh=>hk2 (by rw [←hlk];exact hh.2)
    rw [decide_eq_false hk2]
    refine zz ?_
    refine z_buildE #[.int .i64 2,.int .i64 0,.string ⟨#[]⟩,.slice none 0 0,.string (bs s),.int .i64 0,.slice none 0 0] (want_L rfl) (by decide) rfl (by kernel_rfl) ?_
    refine zCl rfl (rLay_calls (va:= .slice none 0 0) h (by omega) (textN s) rfl rfl (AttrS.nil _)) ?_
    rintro _ u1 ⟨rfl,vn1,vu1,vr1,ms1,ks1,g1,g2⟩
    refine ⟨_,rfl,?_⟩
    refine zP rfl (zP rfl ?_)
    refine zCl rfl (put g1) ?_
    rintro _ u2 ⟨ks2,rfl,g3,g4⟩
    refine ⟨_,rfl,?_⟩
    refine zz ?_
    refine zk_ret1 (.inr rfl) rfl rfl ⟨true,_,_,_,_,_,_,rfl,g3,g2.trans g4,fun _=>⟨rfl,?_⟩,fun hh=>absurd hok hh⟩
    rw [hpe];show _=writeN N s j _;unfold writeN;rw [if_neg hse,if_neg hcnd]
end
inductive TI (N:List ND):Nat→Nat→List Nat→NT→Prop
 |nil (lo:Nat):TI N lo lo [] .nil
 |cons (lo mid hi:Nat) (ks r:List Nat) (tk tr:NT) (x:Hd):(N.getD lo n0).kids=ks→hdOf (N.getD lo n0)=x→TI N (lo+1) mid ks tk→TI N mid hi r tr→TI N lo hi (lo::r) (.cons x tk tr)
section
variable {N N' : List ND} {lo mid hi : Nat} {ks ks' : List Nat} {t t' : NT}
theorem TI.tf (h:TI N lo hi ks t):TF N ks t:=by
 induction h with
 |nil lo=>exact .nil
 |cons lo mid hi ks r tk tr x h1 h2 _ _ i1 i2=>
  subst h1 h2
  exact .cons _ _ _ _ i1 i2
theorem TI.le (h:TI N lo hi ks t):lo≤hi:=by
 induction h with
 |nil lo=>exact Nat.le_refl _
 |cons lo mid hi ks r tk tr x h1 h2 _ _ i1 i2=>omega
theorem TI.congr (h:TI N lo hi ks t):(∀i,lo≤i→i<hi→(N'.getD i n0).kids=(N.getD i n0).kids∧hdOf (N'.getD i n0)=hdOf (N.getD i n0))→TI N' lo hi ks t:=by
 induction h with
 |nil lo=>exact fun _=> .nil _
 |cons lo mid hi ks r tk tr x h1 h2 a1 a2 i1 i2=>
  intro he
  have l1:=a1.le
  have l2:=a2.le
  obtain ⟨e1,e2⟩:=he lo (Nat.le_refl _) (by omega)
  exact .cons _ _ _ _ _ _ _ _ (e1.trans h1) (e2.trans h2) (i1 fun i p q=>he i (by omega) (by omega)) (i2 fun i p q=>he i (by omega) (by omega))
theorem TI.app (h:TI N lo mid ks t):TI N mid hi ks' t'→TI N lo hi (ks++ks') (t.app t'):=by
 induction h with
 |nil lo=>exact id
 |cons lo mid hi ks r tk tr x h1 h2 a1 a2 i1 i2=>exact fun h=> .cons _ _ _ _ _ _ _ _ h1 h2 a1 (i2 h)
def NT.lastH:NT→Option Hd
 | .nil=>none
 | .cons x _ .nil=>some x
 | .cons _ _ r=>r.lastH
theorem TI.last (h:TI N lo hi ks t):ks≠ []→ ∃x,t.lastH=some x∧hdOf (N.getD (ks.getD (ks.length - 1) 0) n0)=x:=by
 induction h with
 |nil lo=>exact fun h=>absurd rfl h
 |cons lo mid hi ks r tk tr x h1 h2 a1 a2 i1 i2=>
  intro _
  cases a2 with
  |nil=>exact ⟨x,rfl,h2⟩
  |cons lo' mid' hi' ks' r' tk' tr' x' q1 q2 q3 q4=>
   obtain ⟨y,e1,e2⟩:=i2 (by simp)
   refine ⟨y,e1,?_⟩
   rw [←e2]
   rfl
end
structure FT where
 hd:Hd
 done:NT
def ZF (N:List ND):List Nat→List Nat→List FT→Nat→Prop
 |_,[],[],hi=>hi=0
 |c,n::R,f::fr,hi=>hdOf (N.getD n n0)=f.hd∧n<hi∧(∃ks,(N.getD n n0).kids=ks++c∧TI N (n+1) hi ks f.done)∧ZF N [n] R fr n
 |_,_,_,_=>False
section
variable {N N' : List ND}
theorem ZF.congr: ∀{c R:List Nat} {fr:List FT} {hi:Nat},ZF N c R fr hi→(∀i,i<hi→(N'.getD i n0).kids=(N.getD i n0).kids∧hdOf (N'.getD i n0)=hdOf (N.getD i n0))→ZF N' c R fr hi
 |c,[],[],hi,h,_=>h
 |c,n::R,f::fr,hi,⟨h1,h2,⟨ks,h3,h4⟩,h5⟩,he=>by
  obtain ⟨e1,e2⟩:=he n h2
  exact ⟨e2.trans h1,h2,⟨ks,e1.trans h3,h4.congr fun i _ q=>he i q⟩,ZF.congr h5 fun i q=>he i (by omega)⟩
 |c,[],f::fr,hi,h,_=>h.elim
 |c,n::R,[],hi,h,_=>h.elim
theorem ZF.len: ∀{c R:List Nat} {fr:List FT} {hi:Nat},ZF N c R fr hi→R.length=fr.length∧R.length≤hi
 |c,[],[],hi,h=>⟨rfl,Nat.zero_le _⟩
 |c,n::R,f::fr,hi,⟨h1,h2,_,h5⟩=>by
  have:=h5.len
  simp only [List.length_cons]
  omega
 |c,[],f::fr,hi,h=>h.elim
 |c,n::R,[],hi,h=>h.elim
theorem ZF.lt: ∀{c R:List Nat} {fr:List FT} {hi:Nat},ZF N c R fr hi→ ∀k∈R,k<hi
 |c,[],[],hi,h=>by simp
 |c,n::R,f::fr,hi,⟨h1,h2,_,h5⟩=>by
  intro k hk
  rcases List.mem_cons.1 hk with rfl|hk
  ·exact h2
  ·have:=h5.lt k hk;omega
 |c,[],f::fr,hi,h=>h.elim
 |c,n::R,[],hi,h=>h.elim
theorem ZF.nodup: ∀{c R:List Nat} {fr:List FT} {hi:Nat},ZF N c R fr hi→R.Nodup
 |c,[],[],hi,h=>List.nodup_nil
 |c,n::R,f::fr,hi,⟨h1,h2,_,h5⟩=>List.nodup_cons.2 ⟨fun hk=>by have:=h5.lt n hk;omega,h5.nodup⟩
 |c,[],f::fr,hi,h=>h.elim
 |c,n::R,[],hi,h=>h.elim
theorem ZF.pos: ∀{c R:List Nat} {fr:List FT} {hi:Nat},ZF N c R fr hi→ ∀i,i+1<R.length→0<R.getD i 0
 |c,[],[],hi,h=>by simp
 |c,n::R,f::fr,hi,⟨h1,h2,_,h5⟩=>by
  intro i hi
  cases i with
  |zero=>
   rw [List.getD_cons_zero]
   simp only [List.length_cons] at hi
   have h6:=h5.len.2
   omega
  |succ i=>rw [List.getD_cons_succ];exact h5.pos i (by simpa using hi)
 |c,[],f::fr,hi,h=>h.elim
 |c,n::R,[],hi,h=>h.elim
theorem ZF.hdAt: ∀{c R:List Nat} {fr:List FT} {hi:Nat},ZF N c R fr hi→ ∀i,i<R.length→ ∃f,fr[i]? =some f∧hdOf (N.getD (R.getD i 0) n0)=f.hd
 |c,[],[],hi,h=>by simp
 |c,n::R,f::fr,hi,⟨h1,h2,_,h5⟩=>by
  intro i hi
  cases i with
  |zero=>exact ⟨f,rfl,h1⟩
  |succ i=>
   obtain ⟨g,e1,e2⟩:=h5.hdAt i (by simpa using hi)
   exact ⟨g,e1,by rw [List.getD_cons_succ];exact e2⟩
 |c,[],f::fr,hi,h=>h.elim
 |c,n::R,[],hi,h=>h.elim
theorem ZF.opens {top:Nat} {R:List Nat} {f:FT} {fr:List FT} (h:ZF N [] (top::R) (f::fr) N.length) (x:ND) (hk:x.kids= []):
  ZF (layN (N++ [x]) N.length top (N.getD top n0).kids.length) [] (N.length::top::R) (⟨hdOf x,.nil⟩::f::fr) (N.length+1):=by
 obtain ⟨h1,h2,⟨ks,h3,h4⟩,h5⟩:=h
 have hg: ∀i,(layN (N++ [x]) N.length top (N.getD top n0).kids.length).getD i n0=if i=N.length then {x with up:=top} else if i=top then {N.getD top n0 with kids:=(N.getD top n0).kids++ [N.length]} else N.getD i n0:=by
  intro i
  have a1:(N++ [x]).getD N.length n0=x:=by rw [getD_add,if_pos rfl]
  have a2:(N++ [x]).getD top n0=N.getD top n0:=by rw [getD_add,if_neg (by omega)]
  rw [layN_get (by simp) (by simp;omega),a1,a2,getD_add]
  by_cases e1:i=N.length
  ·rw [if_pos e1,if_pos e1]
  ·rw [if_neg e1,if_neg e1,if_neg e1]
   unfold insK
   rw [List.take_length,List.drop_length]
 refine ⟨?_,by omega,⟨[],?_,.nil _⟩,?_,h2,⟨ks,?_,?_⟩,?_⟩
 ·rw [hg,if_pos rfl];rfl
 ·rw [hg,if_pos rfl];exact hk
 ·rw [hg,if_neg (by omega),if_pos rfl];exact h1
 ·rw [hg,if_neg (by omega),if_pos rfl,h3,List.append_nil]
 ·exact h4.congr fun i p q=>by rw [hg,if_neg (by omega),if_neg (by omega)];exact ⟨rfl,rfl⟩
 ·exact h5.congr fun i q=>by rw [hg,if_neg (by omega),if_neg (by omega)];exact ⟨rfl,rfl⟩
theorem ZF.close {n m hi:Nat} {R:List Nat} {f g:FT} {fr:List FT} (h:ZF N [] (n::m::R) (f::g::fr) hi):ZF N [] (m::R) (⟨g.hd,g.done.snoc f.hd f.done⟩::fr) hi:=by
 obtain ⟨h1,h2,⟨ks,h3,h4⟩,h5,h6,⟨ks',h7,h8⟩,h9⟩:=h
 rw [List.append_nil] at h3
 exact ⟨h5,by omega,⟨ks'++ [n],by rw [h7,List.append_nil],h8.app (.cons _ _ _ _ _ _ _ _ h3 h1 h4 (.nil _))⟩,h9⟩
theorem ZF.lastK {top:Nat} {R:List Nat} {f:FT} {fr:List FT} {hi:Nat} (h:ZF N [] (top::R) (f::fr) hi) (hl: ∀x,f.done.lastH=some x→x.kind≠2): ¬(0<(N.getD top n0).kids.length∧(N.getD (lastK N top (N.getD top n0).kids.length) n0).kind=2):=by
 obtain ⟨h1,h2,⟨ks,h3,h4⟩,h5⟩:=h
 rw [List.append_nil] at h3
 rintro ⟨g1,g2⟩
 obtain ⟨x,e1,e2⟩:=h4.last (fun e=>by rw [h3,e] at g1;exact absurd g1 (by simp))
 refine hl x e1 ?_
 rw [←e2]
 unfold D.lastK at g2
 rw [h3] at g2
 exact g2
theorem ZF.text {top:Nat} {R:List Nat} {f:FT} {fr:List FT} (h:ZF N [] (top::R) (f::fr) N.length) (s:List UInt8) (hs:s≠ []) (hl: ∀x,f.done.lastH=some x→x.kind≠2):
  ZF (writeN N s top (N.getD top n0).kids.length) [] (top::R) (⟨f.hd,f.done.snoc (hdOf (textN s)) .nil⟩::fr) (writeN N s top (N.getD top n0).kids.length).length:=by
 unfold writeN
 rw [if_neg hs,if_neg (h.lastK hl),layN_len,List.length_append]
 exact (h.opens (textN s) rfl).close
end
def encT (al:List T.At):List At:=al.map fun a=>(bs a.1,bs a.2)
theorem encT_enc: ∀al:List T.At,encA (encT al)=T.encA al
 | []=>rfl
 |a::r=>by
  have:=encT_enc r
  show Value.string (bs a.1)::Value.string (bs a.2)::encA (encT r)=_
  rw [this];rfl
theorem encT_len (al:List T.At):(encT al).length=al.length:=by simp [encT]
def elemH (nm:List UInt8) (al:List T.At):Hd:=⟨1,1,bs nm,encT al,⟨#[]⟩,0⟩
structure RowN (N:List ND) (L:List Nat) (ns:List (List UInt8)):Prop where
 len:ns.length=L.length
 lt: ∀i,i<L.length→L.getD i 0<N.length
 pos: ∀i,0<i→i<L.length→0<L.getD i 0
 hd: ∀i,i<L.length→ ∃al,hdOf (N.getD (L.getD i 0) n0)=elemH (ns.getD i []) al
section
variable {w w' w0 w1 w2 : World} {t : Nat} {r r' r1 : TP} {N N' : List ND} {L L' : List Nat} {S : Nat → Prop} {ns : List (List UInt8)}
theorem rsIs2_calls (h:IsT w t r N L) {v:Value} {l:List (List UInt8)} (hN:RdS w 9 1 v l.length (T.cellsS l)) (hl:l.length≤100000) (n:Nat) (hn:n<N.length) (nm:List UInt8) (al:List T.At) (hd:hdOf (N.getD n n0)=elemH nm al):
  Calls Tryz.prog 111 [.pointer (some ⟨t,0,none⟩),.int .i64 (n:Nat),v].toArray w fun x w'=>x= .returned (.bool (decide (n≠0∧nm∈l)))∧Chg w w' No:=by
 obtain ⟨A,c,rfl,hc⟩:=hN.form
 have hb:=h.blk
 have hx:nodeOf N (n:Nat)=N.getD n n0:=if_pos ⟨by omega,by omega⟩
 have k1:(nodeOf N (n:Nat)).kind=1:=by rw [hx];exact congrArg Hd.kind hd
 have k2:(nodeOf N (n:Nat)).space=1:=by rw [hx];exact congrArg Hd.space hd
 have k3:(nodeOf N (n:Nat)).name=bs nm:=by rw [hx];exact congrArg Hd.name hd
 refine zCz 32 Tryz.func111 ?_
 refine zz ?_
 refine zCl rfl (rNode_calls h.doc (n:Nat)) ?_
 rintro _ w2 ⟨va,rfl,hA2,hX2⟩
 refine ⟨_,rfl,?_⟩
 rw [k1,k2,k3]
 obtain ⟨A4,c4,rfl,_⟩:=hA2.form
 obtain ⟨m4,hm4⟩: ∃m4,m4=(nodeOf N (n:Nat)).attrs.length:=⟨_,rfl⟩
 rw [←hm4]
 obtain ⟨tx,htx⟩: ∃tx,tx=(nodeOf N (n:Nat)).text:=⟨_,rfl⟩
 rw [←htx]
 refine zAl (fun w3 b3 hN3=> ?_)
 have hb3:Blk w3 b3 80 [.int .i64 0,.int .i64 0,.string ⟨#[]⟩,.slice none 0 0,.string ⟨#[]⟩,.int .i64 0,.slice none 0 0]:=hN3.blk
 refine z_store (want_L rfl) rfl rfl rfl (by assumption) (by first|exact Nat.le_refl _|simp [Value.cells]) (by simp [Value.cells,Value.oneCell']) (fun w4 hU4=> ?_)
 have hb4:Blk w4 b3 80 [.int .i64 1,.int .i64 1,.string (bs nm),.slice A4 m4 c4,.string (bs tx),.int .i64 0,.slice none 0 0]:=hU4.blk
 have hC4:Chg w w4 No:=(hX2.no hN3.chg).upd hU4 (by have:=hN3.at_;have:=hX2.size;omega)
 by_cases h0:n=0
 ·rw [decide_eq_false (fun hh=>hh.1 h0)]
  refine zz ?_
  exact zk_ret1 (.inr rfl) rfl rfl ⟨rfl,hC4⟩
 refine zz ?_
 refine zCp rfl (T.inR_calls l nm (hN.no hC4) hl) ?_
 refine zz ?_
 refine zk_ret1 (.inr rfl) rfl rfl ⟨?_,hC4⟩
 congr 2
 by_cases hm:nm∈l
 ·rw [decide_eq_true hm,decide_eq_true ⟨h0,hm⟩]
 ·rw [decide_eq_false hm,decide_eq_false (fun hh=>hm hh.2)]
def lastI (l ns:List (List UInt8)):Nat→Int
 |0=> -1
 |k+1=>if k=0 then -1 else if ns.getD k []∈l then (k:Int) else lastI l ns k
theorem rsLast_calls (h:IsT w t r N L) (hR:RowN N L ns) (hL:0<L.length) (hLl:L.length≤1000000) {v:Value} {l:List (List UInt8)} (hN:RdS w 9 1 v l.length (T.cellsS l)) (hl:l.length≤100000):
  Calls Tryz.prog 90 [.pointer (some ⟨t,0,none⟩),v].toArray w fun x w'=>x= .returned (.int .i64 (lastI l ns L.length))∧Chg w w' No:=by
 obtain ⟨A,c,rfl,hc⟩:=hN.form
 have hb:=h.blk
 obtain ⟨b,o,c1,hv,_,hcc⟩:=RdS.some h.row.rd hL
 rw [hv] at hb
 refine zCz 27 Tryz.func90 ?_
 refine zz ?_
 refine zc_loopW (ι:=Nat) (fun k u=> [(0,.pointer (some ⟨t,0,none⟩)),(1,.slice A l.length c),(5,.int .i64 k)]) (fun k u=>k<L.length∧lastI l ns (k+1)=lastI l ns L.length∧Chg w u No) (fun k u=>k) (L.length - 1) ⟨by omega,by rw [Nat.sub_add_cancel hL],Chg.refl _ _⟩ ?_ ?_
 ·exact ⟨rfl,rfl,get_int rfl (by omega),trivial⟩
 rintro k u ⟨hk,hf,hC⟩
 rw [←hf]
 cases k with
 |zero=>
  refine zz ?_
  exact zk_ret1 (.inr rfl) rfl rfl ⟨rfl,hC⟩
 |succ k=>
  have hbu:=hb.no hC
  have hcell:u.cell? ⟨b,o+(k+1),none⟩=some (.int .i64 ((L.getD (k+1) 0:Nat):Int)):=cell_no hC (hcc (k+1) _ (intC_get _ (k+1) hk))
  obtain ⟨al,hd⟩:=hR.hd _ hk
  have hp:=hR.pos (k+1) (by omega) hk
  refine zz ?_
  refine zL1 rfl (cell_at hcell (by omega)) (zP rfl ?_)
  refine zCr rfl (rsIs2_calls (h.no hC) (hN.no hC) hl (L.getD (k+1) 0) (hR.lt _ hk) _ al hd) fun u1 hC1=> ?_
  show ZL _ _ _ _ _ _ _
  have e:lastI l ns (k+1+1)=if ns.getD (k+1) []∈l then ((k+1:Nat):Int) else lastI l ns (k+1):=by
   rw [lastI,if_neg (by omega)]
  rw [e]
  by_cases hm:ns.getD (k+1) []∈l
  ·rw [if_pos hm,decide_eq_true (⟨by omega,hm⟩:L.getD (k+1) 0≠0∧ns.getD (k+1) []∈l)]
   refine zz ?_
   exact zk_ret1 (.inr rfl) rfl rfl ⟨rfl,hC.no hC1⟩
  ·rw [if_neg hm,decide_eq_false (fun hh:L.getD (k+1) 0≠0∧ns.getD (k+1) []∈l=>hm hh.2)]
   refine zz ?_
   exact zk_loopW k ⟨by omega,rfl,hC.no hC1⟩ (by omega) ⟨rfl,rfl,get_int rfl (by omega),trivial⟩
theorem wallX_calls {w:World} (sc:Int) (hsc:sc=1∨sc=2∨sc=3∨sc=4) (nm:List UInt8):Calls Tryz.prog 149 [.int .i64 sc,.int .i64 1,.string (bs nm)].toArray w fun e w'=>(∃v,e= .returned (.bool v))∧Chg w w' No:=by
 have fin: ∀(ws:List UInt8),(T.wordsN [] ws).length≤100000→ ∀{u:World} {v:Value},Own u 9 1 v (T.wordsN [] ws).length (T.cellsS (T.wordsN [] ws))→Calls Tryz.prog 97 [v,.string (bs nm)].toArray u fun e w'=>(∃x,e= .returned (.bool x))∧w'=u:=fun ws h1 u v hO=>(T.inR_calls _ nm hO.rd h1).mono fun e w' hh=>⟨⟨_,hh.1⟩,hh.2⟩
 rcases hsc with rfl|rfl|rfl|rfl
 ·refine zCz 45 Tryz.func149 ?_
  refine zz ?_
  refine zCl rfl (T.wordsR_calls (l:= [97,112,112,108,101,116,32,99,97,112,116,105,111,110,32,104,116,109,108,32,109,97,114,113,117,101,101,32,111,98,106,101,99,116,32,116,97,98,108,101,32,116,100,32,116,101,109,112,108,97,116,101,32,116,104]) (by decide)) ?_
  rintro _ w1 ⟨v,rfl,hO,hC⟩
  refine ⟨_,rfl,?_⟩
  refine zP rfl ?_
  refine zCl rfl (fin _ (by decide+kernel) hO) ?_
  rintro _ u ⟨⟨x,rfl⟩,hu⟩
  obtain rfl:=hu.symm
  refine ⟨_,rfl,?_⟩
  refine zz ?_
  exact zk_ret1 (.inr rfl) rfl rfl ⟨⟨_,rfl⟩,hC⟩
 ·refine zCz 45 Tryz.func149 ?_
  refine zz ?_
  refine zCl rfl (T.wordsR_calls (l:= [97,112,112,108,101,116,32,99,97,112,116,105,111,110,32,104,116,109,108,32,109,97,114,113,117,101,101,32,111,98,106,101,99,116,32,116,97,98,108,101,32,116,100,32,116,101,109,112,108,97,116,101,32,116,104,32,111,108,32,117,108]) (by decide)) ?_
  rintro _ w1 ⟨v,rfl,hO,hC⟩
  refine ⟨_,rfl,?_⟩
  refine zP rfl ?_
  refine zCl rfl (fin _ (by decide+kernel) hO) ?_
  rintro _ u ⟨⟨x,rfl⟩,hu⟩
  obtain rfl:=hu.symm
  refine ⟨_,rfl,?_⟩
  refine zz ?_
  exact zk_ret1 (.inr rfl) rfl rfl ⟨⟨_,rfl⟩,hC⟩
 ·refine zCz 45 Tryz.func149 ?_
  refine zz ?_
  refine zCl rfl (T.wordsR_calls (l:= [97,112,112,108,101,116,32,99,97,112,116,105,111,110,32,104,116,109,108,32,109,97,114,113,117,101,101,32,111,98,106,101,99,116,32,116,97,98,108,101,32,116,100,32,116,101,109,112,108,97,116,101,32,116,104,32,98,117,116,116,111,110]) (by decide)) ?_
  rintro _ w1 ⟨v,rfl,hO,hC⟩
  refine ⟨_,rfl,?_⟩
  refine zP rfl ?_
  refine zCl rfl (fin _ (by decide+kernel) hO) ?_
  rintro _ u ⟨⟨x,rfl⟩,hu⟩
  obtain rfl:=hu.symm
  refine ⟨_,rfl,?_⟩
  refine zz ?_
  exact zk_ret1 (.inr rfl) rfl rfl ⟨⟨_,rfl⟩,hC⟩
 ·refine zCz 45 Tryz.func149 ?_
  refine zz ?_
  refine zCl rfl (T.wordsR_calls (l:= [104,116,109,108,32,116,97,98,108,101,32,116,101,109,112,108,97,116,101]) (by decide)) ?_
  rintro _ w1 ⟨v,rfl,hO,hC⟩
  refine ⟨_,rfl,?_⟩
  refine zP rfl ?_
  refine zCl rfl (fin _ (by decide+kernel) hO) ?_
  rintro _ u ⟨⟨x,rfl⟩,hu⟩
  obtain rfl:=hu.symm
  refine ⟨_,rfl,?_⟩
  refine zz ?_
  exact zk_ret1 (.inr rfl) rfl rfl ⟨⟨_,rfl⟩,hC⟩
theorem rsHas2_calls (h:IsT w t r N L) (hR:RowN N L ns) (hL:0<L.length) (hLl:L.length≤1000000) {v:Value} {l:List (List UInt8)} (hN:RdS w 9 1 v l.length (T.cellsS l)) (hl:l.length≤100000) (sc:Int) (hsc:sc=1∨sc=2∨sc=3∨sc=4):
  Calls Tryz.prog 123 [.pointer (some ⟨t,0,none⟩),.int .i64 sc,v].toArray w fun x w'=>(∃q,x= .returned (.bool q)∧(1<L.length→ns.getD (L.length - 1) []∈l→q=true)∧((∀i,ns.getD i []∉l)→q=false))∧Chg w w' No:=by
 obtain ⟨A,c,rfl,hc⟩:=hN.form
 have hb:=h.blk
 obtain ⟨b,o,c1,hv,_,hcc⟩:=RdS.some h.row.rd hL
 rw [hv] at hb
 refine zCz 47 Tryz.func123 ?_
 refine zz ?_
 refine zc_loopW (ι:=Nat) (fun k u=> [(0,.pointer (some ⟨t,0,none⟩)),(1,.int .i64 sc),(2,.slice A l.length c),(7,.int .i64 k)]) (fun k u=>k<L.length∧(k+1<L.length→ns.getD (L.length - 1) []∉l)∧Chg w u No) (fun k u=>k) (L.length - 1) ⟨by omega,fun hh=>by omega,Chg.refl _ _⟩ ?_ ?_
 ·exact ⟨rfl,rfl,rfl,get_int rfl (by omega),trivial⟩
 rintro k u ⟨hk,hf,hC⟩
 cases k with
 |zero=>
  refine zz ?_
  exact zk_ret1 (.inr rfl) rfl rfl ⟨⟨_,rfl,fun h1 h2=>absurd h2 (hf (by omega)),fun _=>rfl⟩,hC⟩
 |succ k=>
  have hbu:=hb.no hC
  have hcell:u.cell? ⟨b,o+(k+1),none⟩=some (.int .i64 ((L.getD (k+1) 0:Nat):Int)):=cell_no hC (hcc (k+1) _ (intC_get _ (k+1) hk))
  obtain ⟨al,hd⟩:=hR.hd _ hk
  have hp:=hR.pos (k+1) (by omega) hk
  have hnl:=hR.lt _ hk
  obtain ⟨nk,hnk⟩: ∃nk,nk=L.getD (k+1) 0:=⟨_,rfl⟩
  rw [←hnk] at hcell hd hp hnl
  obtain ⟨nm,hnm⟩: ∃nm,nm=ns.getD (k+1) []:=⟨_,rfl⟩
  rw [←hnm] at hd
  have hx:nodeOf N (nk:Nat)=N.getD nk n0:=if_pos ⟨by omega,by omega⟩
  have k1:(nodeOf N (nk:Nat)).kind=1:=by rw [hx];exact congrArg Hd.kind hd
  have k2:(nodeOf N (nk:Nat)).space=1:=by rw [hx];exact congrArg Hd.space hd
  have k3:(nodeOf N (nk:Nat)).name=bs nm:=by rw [hx];exact congrArg Hd.name hd
  refine zz ?_
  refine zL1 rfl (cell_at hcell (by omega)) (zP rfl ?_)
  refine zCr rfl (rsIs2_calls (h.no hC) (hN.no hC) hl nk hnl _ al hd) fun u1 hC1=> ?_
  by_cases hm:nm∈l
  ·rw [decide_eq_true (⟨by omega,hm⟩:nk≠0∧nm∈l)]
   refine zz ?_
   exact zk_ret1 (.inr rfl) rfl rfl ⟨⟨_,rfl,fun _ _=>rfl,fun hh=>absurd hm (hnm▸hh (k+1))⟩,hC.no hC1⟩
  rw [decide_eq_false (fun hh:nk≠0∧nm∈l=>hm hh.2)]
  have hf2:ns.getD (L.length - 1) []∉l:=by
   by_cases h1:k+1+1<L.length
   ·exact hf h1
   ·obtain he:L.length - 1=k+1:=by omega
    rw [he,←hnm];exact hm
  have hb1:=hbu.no hC1
  have hcell1:=cell_no hC1 hcell
  refine zz ?_
  refine zc_draw [13] (fun w'=>Chg u1 w' No∧Blk w' t 74 [.pointer (some ⟨r.pd,0,none⟩),.pointer (some ⟨r.pm,0,none⟩),.slice (some ⟨b,o,none⟩) L.length c1,.bool false]) (.take 0 (.take 1 (.take 2 (.take 3 (.take 4 (.take 5 (.take 6 (.take 7 (.take 8 (.take 9 (.take 10 (.all2 11 (.all1 12 (.last 13)) 12 (.all1 11 (.last 13)))))))))))))) (by rfl) (by kernel_rfl) (by kernel_rfl) (fun u2 hC2 _=>⟨?_,?_⟩)
  ·exact ⟨hC2,hb1.no hC2⟩
  refine zz ?_
  refine zRd rfl rfl (fun _ hS=>r_load1 rfl (cell_at (cell_no hS.1 hcell1) (by omega))) ?_
  have hs1:=hC1.size
  have hs2:=hC2.size
  refine zs_two ?_ ?_
  ·refine zo_call rfl (want_L rfl) rfl (by decide) rfl (rNode_calls ((h.no (hC.no hC1)).no hC2).doc _) ?_
   rintro _ u3 ⟨va,rfl,hA3,hC3⟩
   refine ⟨_,rfl,⟨hC2.no hC3,(hb1.no hC2).no hC3⟩,?_⟩
   rw [k1,k2,k3]
   obtain ⟨A4,c4,rfl,_⟩:=hA3.form
   obtain ⟨c4l,hc4l⟩: ∃x,x=(nodeOf N (nk:Nat)).attrs.length:=⟨_,rfl⟩
   rw [←hc4l]
   obtain ⟨tx,htx⟩: ∃tx,tx=(nodeOf N (nk:Nat)).text:=⟨_,rfl⟩
   rw [←htx]
   refine zs_alloc rfl (want_L rfl) (by decide) (fun u4 b8 hN4=> ?_)
   have hb4:Blk u4 b8 80 [.int .i64 0,.int .i64 0,.string ⟨#[]⟩,.slice none 0 0,.string ⟨#[]⟩,.int .i64 0,.slice none 0 0]:=hN4.blk
   refine ⟨⟨(hC2.no hC3).no hN4.chg,((hb1.no hC2).no hC3).no hN4.chg⟩,?_⟩
   refine zs_storeL rfl (want_L rfl) rfl rfl rfl (by assumption) (by first|exact Nat.le_refl _|simp [Value.cells]) (by simp [Value.cells,Value.oneCell']) (fun u5 hU5=> ?_)
   have hC5:Chg u1 u5 No:=((hC2.no hC3).no hN4.chg).upd hU5 (by have:=hN4.at_;have:=hC3.size;omega)
   have hb5:Blk u5 b8 80 [.int .i64 1,.int .i64 1,.string (bs nm),.slice A4 c4l c4,.string (bs tx),.int .i64 0,.slice none 0 0]:=hU5.blk
   refine zz ?_
   refine zCl rfl (wallX_calls sc hsc nm) ?_
   rintro _ u6 ⟨⟨q,rfl⟩,hC6⟩
   refine ⟨_,rfl,?_⟩
   have hC16:Chg w u6 No:=(hC.no hC1).no (hC5.no hC6)
   cases q
   ·refine zz ?_
    exact zk_loopW k ⟨by omega,fun _=>hf2,hC16⟩ (by omega) ⟨rfl,rfl,rfl,get_int rfl (by omega),trivial⟩
   ·refine zz ?_
    exact zk_ret1 (.inr rfl) rfl rfl ⟨⟨_,rfl,fun _ h2=>absurd h2 hf2,fun _=>rfl⟩,hC16⟩
  ·refine zo_alloc rfl (want_L rfl) (by decide) (fun u4 b8 hN4=> ?_)
   have hb4:Blk u4 b8 80 [.int .i64 0,.int .i64 0,.string ⟨#[]⟩,.slice none 0 0,.string ⟨#[]⟩,.int .i64 0,.slice none 0 0]:=hN4.blk
   refine ⟨⟨hC2.no hN4.chg,(hb1.no hC2).no hN4.chg⟩,?_⟩
   refine zs_call rfl (want_L rfl) rfl (by decide) rfl (rNode_calls (((h.no (hC.no hC1)).no hC2).no hN4.chg).doc _) ?_
   rintro _ u3 ⟨va,rfl,hA3,hC3⟩
   refine ⟨_,rfl,⟨(hC2.no hN4.chg).no hC3,((hb1.no hC2).no hN4.chg).no hC3⟩,?_⟩
   rw [k1,k2,k3]
   obtain ⟨A4,c4,rfl,_⟩:=hA3.form
   obtain ⟨c4l,hc4l⟩: ∃x,x=(nodeOf N (nk:Nat)).attrs.length:=⟨_,rfl⟩
   rw [←hc4l]
   obtain ⟨tx,htx⟩: ∃tx,tx=(nodeOf N (nk:Nat)).text:=⟨_,rfl⟩
   rw [←htx]
   have hb4:=hb4.no hC3
   refine zs_storeL rfl (want_L rfl) rfl rfl rfl (by assumption) (by first|exact Nat.le_refl _|simp [Value.cells]) (by simp [Value.cells,Value.oneCell']) (fun u5 hU5=> ?_)
   have hC5:Chg u1 u5 No:=((hC2.no hN4.chg).no hC3).upd hU5 (by have:=hN4.at_;omega)
   have hb5:Blk u5 b8 80 [.int .i64 1,.int .i64 1,.string (bs nm),.slice A4 c4l c4,.string (bs tx),.int .i64 0,.slice none 0 0]:=hU5.blk
   refine zz ?_
   refine zCl rfl (wallX_calls sc hsc nm) ?_
   rintro _ u6 ⟨⟨q,rfl⟩,hC6⟩
   refine ⟨_,rfl,?_⟩
   have hC16:Chg w u6 No:=(hC.no hC1).no (hC5.no hC6)
   cases q
   ·refine zz ?_
    exact zk_loopW k ⟨by omega,fun _=>hf2,hC16⟩ (by omega) ⟨rfl,rfl,rfl,get_int rfl (by omega),trivial⟩
   ·refine zz ?_
    exact zk_ret1 (.inr rfl) rfl rfl ⟨⟨_,rfl,fun _ h2=>absurd h2 hf2,fun _=>rfl⟩,hC16⟩
end
structure MK where
 n:Int
 nm:List UInt8
 A:Option Addr
 l:Nat
 c:Nat
def mk0:MK:=⟨0,[],none,0,0⟩
def MK.wall:MK:=⟨-1,[],none,0,0⟩
def encK:List MK→List Value
 | []=> []
 |m::r=> .int .i64 m.n:: .string (bs m.nm):: .slice m.A m.l m.c::encK r
theorem encK_app: ∀l r:List MK,encK (l++r)=encK l++encK r
 | [],r=>rfl
 |m::l,r=>by simp [encK,encK_app l r]
theorem encK_one: ∀(l:List MK),∀u∈encK l,u.oneCell'=true
 | [],u,h=>by simp [encK] at h
 |m::r,u,h=>by
  simp only [encK,List.mem_cons] at h
  rcases h with rfl|rfl|rfl|h
  ·rfl
  ·rfl
  ·rfl
  ·exact encK_one r u h
theorem encK_get: ∀(l:List MK) (i:Nat),i<l.length→(encK l)[i*3]? =some (.int .i64 (l.getD i mk0).n)∧(encK l)[i*3+1]? =some (.string (bs (l.getD i mk0).nm))∧(encK l)[i*3+2]? =some (.slice (l.getD i mk0).A (l.getD i mk0).l (l.getD i mk0).c)
 | [],i,h=>by simp at h
 |m::l,0,h=>by simp [encK]
 |m::l,i+1,h=>by
  have:=encK_get l i (by simpa using h)
  rw [show (i+1)*3=i*3+1+1+1 by omega]
  simpa [encK,show i*3+1+1+1+1=(i*3+1)+1+1+1 by omega,show i*3+1+1+1+2=(i*3+2)+1+1+1 by omega] using this
theorem encK_take: ∀(l:List MK) (k:Nat),(encK l).take (k*3)=encK (l.take k)
 | [],k=>by simp [encK]
 |m::l,0=>by simp [encK]
 |m::l,k+1=>by
  rw [show (k+1)*3=k*3+1+1+1 by omega]
  simp [encK,encK_take l k]
theorem encK_drop: ∀(l:List MK) (k:Nat),(encK l).drop (k*3)=encK (l.drop k)
 | [],k=>by simp [encK]
 |m::l,0=>by simp [encK]
 |m::l,k+1=>by
  rw [show (k+1)*3=k*3+1+1+1 by omega]
  simp [encK,encK_drop l k]
structure IsK (w:World) (pm:Nat) (vm:Value) (M:List MK):Prop where
 blk:Blk w pm 121 [vm]
 row:Own w 173 3 vm M.length (encK M)
def FM (W:Nat) (w:World) (v:Value) (m:Nat) (cs:List Value):Prop:=Own w 173 3 v m cs∧ ∀k,v.ownBlock=some k→W≤k
section
variable {W m m' : Nat} {w w' w0 : World} {v v' : Value} {cs cs' : List Value}
theorem FM.no (h:FM W w v m cs) (hc:Chg w w' No):FM W w' v m cs:=⟨h.1.no hc,h.2⟩
theorem FM.grow (h:FM W w v m cs) (hW:W≤w.heap.size) (hO:Own w' 173 3 v' m' cs') (hr:v'.ownBlock=v.ownBlock∨ ∃k,v'.ownBlock=some k∧w.heap.size≤k):FM W w' v' m' cs':=⟨hO,fun k hk=>by
 rcases hr with e|⟨j,e,e2⟩
 ·exact h.2 k (e▸hk)
 ·rw [hk] at e;cases e;omega⟩
theorem FM.ch (h:FM w0.heap.size w v m cs) (h0:Chg w0 w No) (hc:Chg w w' (fun k=>v.ownBlock=some k)):Chg w0 w' No:=h0.trans hc (fun k hk he=>by have:=h.2 k he;omega)
theorem FM.rd (h:FM W w v m cs) (hc:Chg w w' (fun k=>v.ownBlock=some k)) {x:Value} {n:Nat} {xs:List Value} (hr:RdS w 173 3 x n xs) (hne: ∀k,v.ownBlock=some k→x.ownBlock≠some k):RdS w' 173 3 x n xs:=RdS.chgAt hr hc (fun _ b _ hb _ he=>hne b he hb)
end
section
variable {w w' w0 w1 w2 : World} {pm : Nat} {vm : Value} {M : List MK}
theorem IsK.no (h:IsK w pm vm M) (hc:Chg w w' No):IsK w' pm vm M:=⟨h.blk.no hc,h.row.no hc⟩
theorem IsK.form (h:IsK w pm vm M): ∃A c,vm= .slice A M.length c∧M.length≤c:=h.row.rd.form
theorem IsK.at_ (h:IsK w pm vm M) (i:Nat) (hi:i<M.length): ∃b o c,vm= .slice (some ⟨b,o,none⟩) M.length c∧w.cell? ⟨b,o+i*3,none⟩=some (.int .i64 (M.getD i mk0).n)∧w.cell? ⟨b,o+i*3+1,none⟩=some (.string (bs (M.getD i mk0).nm))∧w.cell? ⟨b,o+i*3+2,none⟩=some (.slice (M.getD i mk0).A (M.getD i mk0).l (M.getD i mk0).c):=by
 obtain ⟨b,o,c,hv,_,hc⟩:=RdS.some h.row.rd (by omega)
 obtain ⟨e1,e2,e3⟩:=encK_get M i hi
 exact ⟨b,o,c,hv,hc _ _ e1,by have:=hc _ _ e2;rwa [←Nat.add_assoc] at this,by have:=hc _ _ e3;rwa [←Nat.add_assoc] at this⟩
theorem mkLen_calls (h:IsK w pm vm M):Calls Tryz.prog 152 [.pointer (some ⟨pm,0,none⟩)].toArray w fun e w'=>e= .returned (.int .i64 (M.length:Nat))∧w'=w:=by
 obtain ⟨A,c,rfl,hc⟩:=h.form
 have hb:=h.blk
 refine zCz 8 Tryz.func152 ?_
 refine zz ?_
 exact zk_ret1 (.inr rfl) rfl rfl ⟨rfl,rfl⟩
theorem mkIs_calls (h:IsK w pm vm M) (i:Nat) (hi:i<M.length) (hl:M.length≤1000000):Calls Tryz.prog 178 [.pointer (some ⟨pm,0,none⟩),.int .i64 (i:Nat)].toArray w fun e w'=>e= .returned (.bool true)∧w'=w:=by
 obtain ⟨A,c,rfl,hc⟩:=h.form
 have hb:=h.blk
 refine zCz 16 Tryz.func178 ?_
 refine zz ?_
 exact zk_ret1 (.inr rfl) rfl rfl ⟨rfl,rfl⟩
theorem mk_agg {w:World} {b o o':Nat} {x y z:Value} (e1:w.cell? ⟨b,o,none⟩=some x) (e2:w.cell? ⟨b,o+1,none⟩=some y) (e3:w.cell? ⟨b,o+2,none⟩=some z) (ho:o'=o): ∀j u,[x,y,z][j]? =some u→w.cell? ((⟨b,o',none⟩:Addr).add j)=some u:=fun j u hj=>by
 subst ho
 rw [addr_add]
 have hj3:j<3:=(List.getElem?_eq_some_iff.1 hj).1
 match j,hj3 with
 |0,_=>simp at hj;subst hj;exact e1
 |1,_=>simp at hj;subst hj;exact e2
 |2,_=>simp at hj;subst hj;exact e3
theorem mkAt_calls (h:IsK w pm vm M) (i:Nat) (hi:i<M.length) (hl:M.length≤1000000):Calls Tryz.prog 154 [.pointer (some ⟨pm,0,none⟩),.int .i64 (i:Nat)].toArray w fun e w'=>e= .returned (.tuple #[.agg #[.int .i64 (M.getD i mk0).n,.string (bs (M.getD i mk0).nm),.slice (M.getD i mk0).A (M.getD i mk0).l (M.getD i mk0).c],.bool true])∧Chg w w' No:=by
 refine zCz 18 Tryz.func154 ?_
 refine zS (zR ?_)
 refine zAl (fun w1 b1 hN1=> ?_)
 have hb1:Blk w1 b1 173 [.int .i64 0,.string ⟨#[]⟩,.slice none 0 0]:=hN1.blk
 have h1:=h.no hN1.chg
 have hge:=hN1.ge (Chg.refl _ No)
 have hb:=h1.blk
 obtain ⟨b,o,c,hv,e1,e2,e3⟩:=h1.at_ i hi
 rw [hv] at hb
 refine zz ?_
 refine zCp rfl (mkIs_calls h1 i hi hl) ?_
 refine zz ?_
 refine z_loadA (by rfl) (want_L rfl) (by decide) rfl (mk_agg e1 e2 e3 (by omega)) ?_
 refine z_store (want_L rfl) rfl rfl rfl (by assumption) (by first|exact Nat.le_refl _|simp [Value.cells]) (by simp [Value.cells,Value.oneCell']) (fun w2 hU2=> ?_)
 have hb2:Blk w2 b1 173 [.int .i64 (M.getD i mk0).n,.string (bs (M.getD i mk0).nm),.slice (M.getD i mk0).A (M.getD i mk0).l (M.getD i mk0).c]:=hU2.blk
 refine zz ?_
 exact zk_retCT (.inr rfl) rfl rfl rfl hb2 rfl ⟨rfl,hN1.chg.upd hU2 hge⟩
def wallK (M:List MK):Nat→Nat
 |0=>0
 |k+1=>if (M.getD k mk0).n<0 then k+1 else wallK M k
theorem wallK_le (M:List MK): ∀k,wallK M k≤k
 |0=>Nat.le_refl _
 |k+1=>by unfold wallK;split;exact Nat.le_refl _;have:=wallK_le M k;omega
theorem mkWall0_calls (h:IsK w pm vm M) (hl:M.length≤1000000):Calls Tryz.prog 177 [.pointer (some ⟨pm,0,none⟩)].toArray w fun e w'=>e= .returned (.int .i64 (wallK M M.length:Nat))∧w'=w:=by
 obtain ⟨A,c,hv0,hc⟩:=h.form
 have hb:=h.blk
 rw [hv0] at hb
 refine zCz 25 Tryz.func177 ?_
 refine zz ?_
 refine zc_loopW (ι:=Nat) (fun k u=> [(0,.pointer (some ⟨pm,0,none⟩)),(3,.int .i64 ((k:Nat) - 1:Int))]) (fun k u=>k≤M.length∧wallK M k=wallK M M.length∧u=w) (fun k u=>k) M.length ⟨Nat.le_refl _,rfl,rfl⟩ ?_ ?_
 ·exact ⟨rfl,get_int rfl (by omega),trivial⟩
 rintro k u ⟨hk,hf,hu⟩
 obtain rfl:=hu.symm
 cases k with
 |zero=>
  refine zz ?_
  exact zk_ret1 (.inr rfl) rfl rfl ⟨by rw [←hf];rfl,rfl⟩
 |succ k=>
  obtain ⟨b,o,c',hv,e1,e2,e3⟩:=h.at_ k (by omega)
  rw [hv0] at hv
  cases hv
  obtain ⟨x,hx⟩: ∃x,x=(M.getD k mk0).n:=⟨_,rfl⟩
  rw [←hx] at e1
  have e:wallK M (k+1)=if (M.getD k mk0).n<0 then k+1 else wallK M k:=rfl
  rw [e,←hx] at hf
  refine zz ?_
  refine zL1 rfl (cell_at e1 (by omega)) ?_
  by_cases hneg:x<0
  ·refine zz ?_
   rw [if_pos hneg] at hf
   refine zk_ret1 (.inr rfl) rfl rfl ⟨?_,rfl⟩
   rw [←hf]
   simp
  ·refine zz ?_
   rw [if_neg hneg] at hf
   exact zk_loopW k ⟨by omega,hf,rfl⟩ (by omega) ⟨rfl,get_int rfl (by omega),trivial⟩
end
end Go.Proofs.YtbcmiijollpgeaaGreat.D
