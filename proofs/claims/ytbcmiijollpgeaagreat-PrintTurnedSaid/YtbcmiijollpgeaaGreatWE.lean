import Derived.Test.YtbcmiijollpgeaaGreatWD
set_option maxHeartbeats 32000000
set_option maxRecDepth 100000
set_option linter.unusedVariables false
set_option linter.unusedSimpArgs false
namespace Go.Z
open Go
section
variable {P : Program} {n : Nat} {e : Env} {w : World} {Q : Exit → Act → World → Prop} {ops : Array Oper} {K : Act → World → Prop} {i : Nat} {d : Tmp} {a : Act} {ty : TypeId} {pos : String} {aft : Array Edge} {g : Option (Nat × Bool)}
theorem wo_append {s x:Operand} {t el:TypeId} {sz k m m':Nat} {z v xv:Value} {xs news:List Value} [hu:Und P t (.slice el)] [hz:Inf P el sz k z] (hzs:z.cells.size=sz) (hsz:0<sz)
  (hi:ops[i]? =some ⟨some d,.call {callee:= .builtin .append,args:= #[s,x],argTypes:= #[t,t]},ty,pos,aft,g⟩) (hw:Want ops e g) (ha:Ok n e a)
  (hs:ev e s=some v) (hx:ev e x=some xv) (hown:Own w el sz v m xs) (hnews:RdS w el sz xv m' news) (h63:m+m'≤9223372036854775807) (hby:(m+m')*k≤140737488355328)
  (h: ∀v' w',Own w' el sz v' (m+m') (xs++news)→Chg w w' (fun k=>v.ownBlock=some k)→(v'.ownBlock=v.ownBlock∨ ∃k,v'.ownBlock=some k∧w.heap.size≤k)→K (a.put (some d) v') w'):wpOp P ops (NP Q) i K a w:=by
 obtain ⟨v',w',hr,h1,h2,h3⟩:=append_run (P:=P) (n:=n) (d:=d) (ty:=ty) (pos:=pos) (aft:=aft) (g:=g) (t:=t) hzs hsz hs hx hown hnews h63 hby
 exact wo_run hi hw rfl ha hr (h v' w' h1 h2 h3)
variable {w' : World} {R : Nat → Prop} {τ : Nat}
def OneT (w:World) (τ:Nat) (R:Nat→Prop):Prop:= ∀k,R k→ ∃cs,Blk w k τ cs
theorem Own.typ {t sz m:Nat} {v:Value} {cs:List Value} (h:Own w t sz v m cs) (hc:Chg w w' R) (hR:OneT w τ R) (ht:t≠τ):Own w' t sz v m cs:=h.chg hc (fun k hk hs=>by obtain ⟨cs',hb⟩:=hR k hs;exact h.ne hk hb ht rfl)
theorem RdS.typ {t sz m:Nat} {v:Value} {cs:List Value} (h:RdS w t sz v m cs) (hc:Chg w w' R) (hR:OneT w τ R) (ht:t≠τ):RdS w' t sz v m cs:=RdS.chg h hc (fun b cells hb hs=>by obtain ⟨cs',hb2⟩:=hR b hs;exact ht (hb.inj hb2).1)
theorem Blk.typ {b t:Nat} {cs:List Value} (h:Blk w b t cs) (hc:Chg w w' R) (hR:OneT w τ R) (ht:t≠τ):Blk w' b t cs:=h.chg hc (fun hs=>by obtain ⟨cs',hb2⟩:=hR b hs;exact ht (h.inj hb2).1)
end
end Go.Z
namespace Go.Proofs.YtbcmiijollpgeaaGreat.D
open Go Go.Z Go.Proofs
abbrev mOne:Value:= .int .i64 (-1)
def NX (t sz:Nat) (v0:Value) (W m:Nat) (cs:List Value) (v:Value) (w:World):Prop:=Own w t sz v m cs∧(v.ownBlock=v0.ownBlock∨ ∃k,v.ownBlock=some k∧W≤k)
structure LayA where
 p:Nat
 nb:Nat
 W:Nat
 n:Nat
 vn:Value
 vu:Value
 vr:Value
 cn:List Value
 cu:List Value
 cr:List Value
 mc:List Value
def GL (q:LayA):Nat→Value→World→Prop
 |0,v,_=>v=pv q.p
 |1,v,_=>v=pv q.p
 |2,v,_=>v=pv q.p
 |3,v,_=>v=pv q.p
 |4,v,_=>v=pv q.p
 |5,v,_=>v= .pointer (some ⟨q.p,0,none⟩)
 |6,v,_=>v=q.vn
 |7,v,_=>v= .agg q.mc.toArray
 |8,v,w=>RdS w 80 7 v 1 q.mc
 |9,v,w=>NX 80 7 q.vn q.W (q.n+1) (q.cn++q.mc) v w
 |10,v,_=>v=pv q.p
 |11,v,_=>v=pv q.p
 |12,v,_=>v= .pointer (some ⟨q.p,1,none⟩)
 |13,v,_=>v=q.vu
 |14,v,w=>RdS w 3 1 v 1 [mOne]
 |15,v,w=>NX 3 1 q.vu q.W (q.n+1) (q.cu++ [mOne]) v w
 |16,v,_=>v=pv q.p
 |17,v,_=>v=pv q.p
 |18,v,_=>v= .pointer (some ⟨q.p,2,none⟩)
 |19,v,_=>v=q.vr
 |20,v,w=>RdS w 22 1 v 1 [nV]
 |21,v,w=>NX 22 1 q.vr q.W (q.n+1) (q.cr++ [nV]) v w
 |22,v,_=>v=pv q.p
 |23,v,_=>v= .pointer (some ⟨q.p,0,none⟩)
 |25,v,_=>v=pv q.p
 |26,v,_=>v= .pointer (some ⟨q.p,1,none⟩)
 |28,v,_=>v=pv q.p
 |29,v,_=>v= .pointer (some ⟨q.p,2,none⟩)
 |_,_,_=>True
def killL:Nat→Nat
 |8=>9
 |14=>15
 |20=>21
 |_=>31
section
variable {q : LayA} {w w' : World} {R : Nat → Prop} {τ : Nat}
theorem NX.no {t sz W m:Nat} {v0 v:Value} {cs:List Value} (h:NX t sz v0 W m cs v w) (hc:Chg w w' No):NX t sz v0 W m cs v w':=⟨h.1.no hc,h.2⟩
theorem NX.typ {t sz W m:Nat} {v0 v:Value} {cs:List Value} (h:NX t sz v0 W m cs v w) (hc:Chg w w' R) (hR:OneT w τ R) (ht:t≠τ):NX t sz v0 W m cs v w':=⟨h.1.typ hc hR ht,h.2⟩
theorem GL.no (hc:Chg w w' No): ∀j v,GL q j v w→GL q j v w'
 |0,v,h=>h
 |1,v,h=>h
 |2,v,h=>h
 |3,v,h=>h
 |4,v,h=>h
 |5,v,h=>h
 |6,v,h=>h
 |7,v,h=>h
 |8,v,h=>RdS.no h hc
 |9,v,h=>NX.no h hc
 |10,v,h=>h
 |11,v,h=>h
 |12,v,h=>h
 |13,v,h=>h
 |14,v,h=>RdS.no h hc
 |15,v,h=>NX.no h hc
 |16,v,h=>h
 |17,v,h=>h
 |18,v,h=>h
 |19,v,h=>h
 |20,v,h=>RdS.no h hc
 |21,v,h=>NX.no h hc
 |22,v,h=>h
 |23,v,h=>h
 |24,v,h=>h
 |25,v,h=>h
 |26,v,h=>h
 |27,v,h=>h
 |28,v,h=>h
 |29,v,h=>h
 |30,v,h=>h
 |_+31,_,_=>trivial
theorem GL.typ (hc:Chg w w' R) (hR:OneT w τ R): ∀j v,(j=8∨j=9→80≠τ)→(j=14∨j=15→3≠τ)→(j=20∨j=21→22≠τ)→GL q j v w→GL q j v w'
 |0,v,_,_,_,h=>h
 |1,v,_,_,_,h=>h
 |2,v,_,_,_,h=>h
 |3,v,_,_,_,h=>h
 |4,v,_,_,_,h=>h
 |5,v,_,_,_,h=>h
 |6,v,_,_,_,h=>h
 |7,v,_,_,_,h=>h
 |8,v,h1,h2,h3,h=>RdS.typ h hc hR (h1 (.inl rfl))
 |9,v,h1,h2,h3,h=>NX.typ h hc hR (h1 (.inr rfl))
 |10,v,_,_,_,h=>h
 |11,v,_,_,_,h=>h
 |12,v,_,_,_,h=>h
 |13,v,_,_,_,h=>h
 |14,v,h1,h2,h3,h=>RdS.typ h hc hR (h2 (.inl rfl))
 |15,v,h1,h2,h3,h=>NX.typ h hc hR (h2 (.inr rfl))
 |16,v,_,_,_,h=>h
 |17,v,_,_,_,h=>h
 |18,v,_,_,_,h=>h
 |19,v,_,_,_,h=>h
 |20,v,h1,h2,h3,h=>RdS.typ h hc hR (h3 (.inl rfl))
 |21,v,h1,h2,h3,h=>NX.typ h hc hR (h3 (.inr rfl))
 |22,v,_,_,_,h=>h
 |23,v,_,_,_,h=>h
 |24,v,_,_,_,h=>h
 |25,v,_,_,_,h=>h
 |26,v,_,_,_,h=>h
 |27,v,_,_,_,h=>h
 |28,v,_,_,_,h=>h
 |29,v,_,_,_,h=>h
 |30,v,_,_,_,h=>h
 |_+31,_,_,_,_,_=>trivial
def SL (q:LayA) (k:Nat):Prop:=k=q.p∨q.vn.ownBlock=some k∨q.vu.ownBlock=some k∨q.vr.ownBlock=some k
structure TL (q:LayA) (w0:World) (b:Array Bool) (w:World):Prop where
 chg:Chg w0 w (SL q)
 nb:Blk w q.nb 80 q.mc
 o9:b.getD 9 false=false→Own w 80 7 q.vn q.n q.cn
 o15:b.getD 15 false=false→Own w 3 1 q.vu q.n q.cu
 o21:b.getD 21 false=false→Own w 22 1 q.vr q.n q.cr
 b0:b.getD 24 false=false→Blk w q.p 106 [q.vn,q.vu,q.vr]
 b1:b.getD 24 false=true→b.getD 27 false=false→ ∃v,Blk w q.p 106 [v,q.vu,q.vr]∧NX 80 7 q.vn q.W (q.n+1) (q.cn++q.mc) v w
 b2:b.getD 27 false=true→b.getD 30 false=false→ ∃v u,Blk w q.p 106 [v,u,q.vr]∧NX 80 7 q.vn q.W (q.n+1) (q.cn++q.mc) v w∧NX 3 1 q.vu q.W (q.n+1) (q.cu++ [mOne]) u w
 b3:b.getD 30 false=true→ ∃v u r,Blk w q.p 106 [v,u,r]∧NX 80 7 q.vn q.W (q.n+1) (q.cn++q.mc) v w∧NX 3 1 q.vu q.W (q.n+1) (q.cu++ [mOne]) u w∧NX 22 1 q.vr q.W (q.n+1) (q.cr++ [nV]) r w
variable {w0 : World} {b : Array Bool}
theorem TL.no (h:TL q w0 b w) (hc:Chg w w' No) {i:Nat} (h1:i≠9) (h2:i≠15) (h3:i≠21) (h4:i≠24) (h5:i≠27) (h6:i≠30):TL q w0 (b.setIfInBounds i true) w':=
 ⟨h.chg.no hc,h.nb.no hc,fun hb=>(h.o9 (by rwa [gd_ne h1] at hb)).no hc,fun hb=>(h.o15 (by rwa [gd_ne h2] at hb)).no hc,fun hb=>(h.o21 (by rwa [gd_ne h3] at hb)).no hc,fun hb=>(h.b0 (by rwa [gd_ne h4] at hb)).no hc,
  fun ha hb=>by
   obtain ⟨v,g1,g2⟩:=h.b1 (by rwa [gd_ne h4] at ha) (by rwa [gd_ne h5] at hb)
   exact ⟨v,g1.no hc,g2.no hc⟩,
  fun ha hb=>by
   obtain ⟨v,u,g1,g2,g3⟩:=h.b2 (by rwa [gd_ne h5] at ha) (by rwa [gd_ne h6] at hb)
   exact ⟨v,u,g1.no hc,g2.no hc,g3.no hc⟩,
  fun hb=>by
   obtain ⟨v,u,r,g1,g2,g3,g4⟩:=h.b3 (by rwa [gd_ne h6] at hb)
   exact ⟨v,u,r,g1.no hc,g2.no hc,g3.no hc,g4.no hc⟩⟩
theorem TL.grow (h:TL q w0 b w) (hc:Chg w w' R) (hR:OneT w τ R) (hsub: ∀k,R k→SL q k) (hnb: ¬R q.nb) {i:Nat} (hi:i<b.size) (h24:b.getD 24 false=false) (h27:b.getD 27 false=false) (h30:b.getD 30 false=false) (h4:i≠24) (h5:i≠27) (h6:i≠30)
  (k9:i=9∨(i≠9∧80≠τ)) (k15:i=15∨(i≠15∧3≠τ)) (k21:i=21∨(i≠21∧22≠τ)) (k63:106≠τ):TL q w0 (b.setIfInBounds i true) w':=by
 refine ⟨h.chg.trans hc (fun k _ hk=>hsub k hk),h.nb.chg hc hnb,fun hb=> ?_,fun hb=> ?_,fun hb=> ?_,fun hb=>(h.b0 h24).typ hc hR k63,fun ha=> ?_,fun ha=> ?_,fun ha=> ?_⟩
 ·rcases k9 with rfl|⟨k,k'⟩
  ·rw [gd_eq hi] at hb;cases hb
  ·rw [gd_ne k] at hb;exact (h.o9 hb).typ hc hR k'
 ·rcases k15 with rfl|⟨k,k'⟩
  ·rw [gd_eq hi] at hb;cases hb
  ·rw [gd_ne k] at hb;exact (h.o15 hb).typ hc hR k'
 ·rcases k21 with rfl|⟨k,k'⟩
  ·rw [gd_eq hi] at hb;cases hb
  ·rw [gd_ne k] at hb;exact (h.o21 hb).typ hc hR k'
 ·rw [gd_ne h4,h24] at ha;cases ha
 ·rw [gd_ne h5,h27] at ha;cases ha
 ·rw [gd_ne h6,h30] at ha;cases ha
end
theorem rLay_calls {w:World} {p:Nat} {vn vu vr va:Value} {ms:List MN} {ks:List Value} {N:List ND} (h:IsR w p vn vu vr ms ks N) (hl:N.length≤10000000) (x:ND) (hu:x.up= -1) (hk:x.kids= []) (hA:AttrS w va x.attrs):
  Calls Tryz.prog 83 [.pointer (some ⟨p,0,none⟩),.agg #[.int .i64 x.kind,.int .i64 x.space,.string x.name,va,.string (bs x.text),.int .i64 0,.slice none 0 0]].toArray w fun e w'=>e= .returned (.int .i64 N.length)∧ ∃vn' vu' vr' ms' ks',IsR w' p vn' vu' vr' ms' ks' (N++ [x])∧WrR w w' p vn vu vr ks vn' vu' vr' ks':=by
 obtain ⟨Aa,ca,rfl,_⟩:=hA.form
 have hvn:=h.formN
 have hvu:=h.formU
 have hvr:=h.formR
 refine zCz 39 Tryz.func83 ?_
 refine zS (zR ?_)
 refine zBx rfl (fun w1 nb hN1=> ?_)
 have hnb:Blk w1 nb 80 [.int .i64 x.kind,.int .i64 x.space,.string x.name,.slice Aa x.attrs.length ca,.string (bs x.text),.int .i64 0,.slice none 0 0]:=hN1.blk
 have h1:=h.no hN1.chg
 have hnbge:w.heap.size≤nb:=hN1.ge (Chg.refl _ No)
 have hnn: ∀k,fR p vn vu vr ks k→k≠nb:=fun k hk he=>by have:=h.lt k hk;omega
 obtain ⟨q,hq⟩: ∃q:LayA,q=⟨p,nb,w1.heap.size,N.length,vn,vu,vr,encN ms,upC N,ks,[.int .i64 x.kind,.int .i64 x.space,.string x.name,.slice Aa x.attrs.length ca,.string (bs x.text),.int .i64 0,.slice none 0 0]⟩:=⟨_,rfl⟩
 have hT0: ∀w',Chg w1 w' No→TL q w1 (Array.replicate 31 false) w':=fun w' hc=>by
  subst hq
  exact ⟨hc.mono (fun _ _ h=>h.elim),hnb.no hc,fun _=>h1.own.no hc,fun _=>h1.ups.no hc,fun _=>h1.rws.no hc,fun _=>h1.blk.no hc,(fun ha=>by rw [gd_rep] at ha;cases ha),(fun ha=>by rw [gd_rep] at ha;cases ha),(fun ha=>by rw [gd_rep] at ha;cases ha)⟩
 have hqp:q.p=p:=by rw [hq]
 have hqW:q.W=w1.heap.size:=by rw [hq]
 have hqn:q.n=N.length:=by rw [hq]
 have hqvn:q.vn=vn:=by rw [hq]
 have hqvu:q.vu=vu:=by rw [hq]
 have hqvr:q.vr=vr:=by rw [hq]
 have hqnb:q.nb=nb:=by rw [hq]
 have hqmc:q.mc= [.int .i64 x.kind,.int .i64 x.space,.string x.name,.slice Aa x.attrs.length ca,.string (bs x.text),.int .i64 0,.slice none 0 0]:=by rw [hq]
 have hmcl:q.mc.length=7:=by rw [hqmc];rfl
 have hmc1: ∀u∈q.mc,u.oneCell'=true:=by rw [hqmc];simp [Value.oneCell']
 refine zz ?_
 refine zc_drawS (GL q) killL (TL q w1) [(0,.pointer (some ⟨p,0,none⟩)),(3,.pointer (some ⟨nb,0,none⟩))] (by rfl) (by kernel_rfl) (by kernel_rfl) ⟨rfl,rfl,trivial⟩ (fun w' hc _=>hT0 w' hc) ?_ ?_
 ·intro i' hi' b a y hbsz hbi hcl hwt hL
  obtain ⟨hok',hTL,hd⟩:=hL
  have hb31:b.size=31:=hbsz
  have hi31:i'<31:=hi'
  have g: ∀j,waits _ i' j=true→(killL j=i'∨31≤killL j)→ ∀dj,dstOf _ j=some dj→ ∃v,a.tmps[dj]? =some v∧GL q j v y:=fun j hw hk dj hdj=>by
   obtain ⟨v,h1,h2⟩:=hd j hw dj hdj
   exact ⟨v,h1,h2 (fun hh=>hh hk)⟩
  have cl: ∀k,waits _ k i'=true→b.getD k false=false:=fun k hw=>by
   rcases hk':b.getD k false with _|_
   ·rfl
   ·have:=hcl k i' hk' hw;rw [hbi] at this;cases this
  have hsize:w1.heap.size≤y.heap.size:=hTL.chg.size
  match i',hi31 with
  |0,_=>
   exact wo_pure rfl hok' rfl ⟨gS (d0:=5) rfl (show _=pv q.p by rw [hqp];rfl),gT (d0:=5) rfl,hTL.no (Chg.refl _ No) (by decide) (by decide) (by decide) (by decide) (by decide) (by decide),fun _ _ _ _ h=>h⟩
  |1,_=>
   exact wo_pure rfl hok' rfl ⟨gS (d0:=6) rfl (show _=pv q.p by rw [hqp];rfl),gT (d0:=6) rfl,hTL.no (Chg.refl _ No) (by decide) (by decide) (by decide) (by decide) (by decide) (by decide),fun _ _ _ _ h=>h⟩
  |2,_=>
   exact wo_pure rfl hok' rfl ⟨gS (d0:=7) rfl (show _=pv q.p by rw [hqp];rfl),gT (d0:=7) rfl,hTL.no (Chg.refl _ No) (by decide) (by decide) (by decide) (by decide) (by decide) (by decide),fun _ _ _ _ h=>h⟩
  |3,_=>
   exact wo_pure rfl hok' rfl ⟨gS (d0:=8) rfl (show _=pv q.p by rw [hqp];rfl),gT (d0:=8) rfl,hTL.no (Chg.refl _ No) (by decide) (by decide) (by decide) (by decide) (by decide) (by decide),fun _ _ _ _ h=>h⟩
  |4,_=>
   obtain ⟨v,hv,e1⟩:=g 3 (by kernel_rfl) (by decide) _ rfl
   have e2:v= .pointer (some ⟨p,0,none⟩):=by rw [show v=pv q.p from e1,hqp];rfl
   subst e2
   exact wo_pure rfl (hok'.cons hv) rfl ⟨gS (d0:=9) rfl (show _=pv q.p by rw [hqp];rfl),gT (d0:=9) rfl,hTL.no (Chg.refl _ No) (by decide) (by decide) (by decide) (by decide) (by decide) (by decide),fun _ _ _ _ h=>h⟩
  |5,_=>
   obtain ⟨v,hv,e1⟩:=g 4 (by kernel_rfl) (by decide) _ rfl
   have e2:v= .pointer (some ⟨p,0,none⟩):=by rw [show v=pv q.p from e1,hqp];rfl
   subst e2
   exact wo_run rfl (want_L rfl) rfl (hok'.cons hv) (r_fa rfl) ⟨gS (d0:=10) rfl (show _=Value.pointer (some ⟨q.p,0,none⟩) by rw [hqp]),gT (d0:=10) rfl,hTL.no (Chg.refl _ No) (by decide) (by decide) (by decide) (by decide) (by decide) (by decide),fun _ _ _ _ h=>h⟩
  |6,_=>
   obtain ⟨v,hv,e1⟩:=g 5 (by kernel_rfl) (by decide) _ rfl
   have e2:v= .pointer (some ⟨p,0,none⟩):=by rw [show v=Value.pointer (some ⟨q.p,0,none⟩) from e1,hqp]
   subst e2
   have hB:=hTL.b0 (cl 24 (by kernel_rfl))
   rw [hqp] at hB
   exact wo_run rfl (want_L rfl) rfl (hok'.cons hv) (r_loadB rfl hB (by rfl)) ⟨gS (d0:=11) rfl (show _=q.vn from rfl),gT (d0:=11) rfl,hTL.no (Chg.refl _ No) (by decide) (by decide) (by decide) (by decide) (by decide) (by decide),fun _ _ _ _ h=>h⟩
  |7,_=>
   have hB:=hTL.nb
   rw [hqnb] at hB
   exact wo_run rfl (want_L rfl) rfl hok' (r_loadAB rfl hB hmcl) ⟨gS (d0:=12) rfl (show _=Value.agg q.mc.toArray from rfl),gT (d0:=12) rfl,hTL.no (Chg.refl _ No) (by decide) (by decide) (by decide) (by decide) (by decide) (by decide),fun _ _ _ _ h=>h⟩
  |8,_=>
   obtain ⟨v,hv,e1⟩:=g 7 (by kernel_rfl) (by decide) _ rfl
   have e2:v= .agg q.mc.toArray:=e1
   subst e2
   have hN:=New.mk' y 80 q.mc
   exact wo_run rfl (want_L rfl) rfl (hok'.cons hv) (run_bs1 rfl (by rfl) (by simp [Value.cells,hmcl]) (by decide) (by decide)) ⟨gS (d0:=13) rfl (show RdS _ 80 7 _ 1 q.mc from RdS.new (New.mk' y 80 q.mc) (by rw [hmcl]) hmc1),gT (d0:=13) rfl,hTL.no hN.chg (by decide) (by decide) (by decide) (by decide) (by decide) (by decide),fun j u _ _ h=>GL.no hN.chg j u h⟩
  |9,_=>
   obtain ⟨v1,hv1,e1⟩:=g 6 (by kernel_rfl) (by decide) _ rfl
   obtain ⟨v2,hv2,e2⟩:=g 8 (by kernel_rfl) (by decide) _ rfl
   have e1:v1=q.vn:=e1
   subst e1
   have hO:=hTL.o9 hbi
   have hR:OneT y 80 (fun k=>q.vn.ownBlock=some k):=fun k hk=>hO.blk hk
   refine wo_append (by rfl) (by decide) rfl (want_L rfl) ((hok'.cons hv1).cons hv2) rfl rfl hO e2 (by omega) (by omega) (fun v' y' hO' hC' hr'=> ?_)
   exact ⟨gS (d0:=14) rfl (show NX _ _ _ _ _ _ _ _ from ⟨hO',hr'.imp id (fun ⟨k,h3,h4⟩=>⟨k,h3,by omega⟩)⟩),gT (d0:=14) rfl,hTL.grow hC' hR (fun k hk=> .inr (.inl hk)) (fun he=>hnn nb (.inr (.inl (by rw [←hqvn,he,hqnb]))) rfl) (by omega) (cl 24 (by kernel_rfl)) (cl 27 (by kernel_rfl)) (cl 30 (by kernel_rfl)) (by decide) (by decide) (by decide) (.inl rfl) (.inr ⟨by decide,by decide⟩) (.inr ⟨by decide,by decide⟩) (by decide),fun j u hj hkj h=>GL.typ hC' hR j u (by rintro (rfl|rfl);exact absurd rfl hkj;exact absurd rfl hj) (by intro _;decide) (by intro _;decide) h⟩
  |10,_=>
   exact wo_pure rfl hok' rfl ⟨gS (d0:=15) rfl (show _=pv q.p by rw [hqp];rfl),gT (d0:=15) rfl,hTL.no (Chg.refl _ No) (by decide) (by decide) (by decide) (by decide) (by decide) (by decide),fun _ _ _ _ h=>h⟩
  |11,_=>
   obtain ⟨v,hv,e1⟩:=g 10 (by kernel_rfl) (by decide) _ rfl
   have e2:v= .pointer (some ⟨p,0,none⟩):=by rw [show v=pv q.p from e1,hqp];rfl
   subst e2
   exact wo_pure rfl (hok'.cons hv) rfl ⟨gS (d0:=16) rfl (show _=pv q.p by rw [hqp];rfl),gT (d0:=16) rfl,hTL.no (Chg.refl _ No) (by decide) (by decide) (by decide) (by decide) (by decide) (by decide),fun _ _ _ _ h=>h⟩
  |12,_=>
   obtain ⟨v,hv,e1⟩:=g 11 (by kernel_rfl) (by decide) _ rfl
   have e2:v= .pointer (some ⟨p,0,none⟩):=by rw [show v=pv q.p from e1,hqp];rfl
   subst e2
   exact wo_run rfl (want_L rfl) rfl (hok'.cons hv) (r_fa rfl) ⟨gS (d0:=17) rfl (show _=Value.pointer (some ⟨q.p,1,none⟩) by rw [hqp]),gT (d0:=17) rfl,hTL.no (Chg.refl _ No) (by decide) (by decide) (by decide) (by decide) (by decide) (by decide),fun _ _ _ _ h=>h⟩
  |13,_=>
   obtain ⟨v,hv,e1⟩:=g 12 (by kernel_rfl) (by decide) _ rfl
   have e2:v= .pointer (some ⟨p,1,none⟩):=by rw [show v=Value.pointer (some ⟨q.p,1,none⟩) from e1,hqp]
   subst e2
   have hB:=hTL.b0 (cl 24 (by kernel_rfl))
   rw [hqp] at hB
   exact wo_run rfl (want_L rfl) rfl (hok'.cons hv) (r_loadB rfl hB (by rfl)) ⟨gS (d0:=18) rfl (show _=q.vu from rfl),gT (d0:=18) rfl,hTL.no (Chg.refl _ No) (by decide) (by decide) (by decide) (by decide) (by decide) (by decide),fun _ _ _ _ h=>h⟩
  |14,_=>
   have hN:=New.mk' y 3 [mOne]
   exact wo_run rfl (want_L rfl) rfl hok' (run_bs1 rfl (by rfl) (by rfl) (by decide) (by decide)) ⟨gS (d0:=19) rfl (show RdS _ 3 1 _ 1 [mOne] from RdS.new (New.mk' y 3 [mOne]) rfl (by simp [Value.oneCell'])),gT (d0:=19) rfl,hTL.no hN.chg (by decide) (by decide) (by decide) (by decide) (by decide) (by decide),fun j u _ _ h=>GL.no hN.chg j u h⟩
  |15,_=>
   obtain ⟨v1,hv1,e1⟩:=g 13 (by kernel_rfl) (by decide) _ rfl
   obtain ⟨v2,hv2,e2⟩:=g 14 (by kernel_rfl) (by decide) _ rfl
   have e1:v1=q.vu:=e1
   subst e1
   have hO:=hTL.o15 hbi
   have hR:OneT y 3 (fun k=>q.vu.ownBlock=some k):=fun k hk=>hO.blk hk
   refine wo_append (by rfl) (by decide) rfl (want_L rfl) ((hok'.cons hv1).cons hv2) rfl rfl hO e2 (by omega) (by omega) (fun v' y' hO' hC' hr'=> ?_)
   exact ⟨gS (d0:=20) rfl (show NX _ _ _ _ _ _ _ _ from ⟨hO',hr'.imp id (fun ⟨k,h3,h4⟩=>⟨k,h3,by omega⟩)⟩),gT (d0:=20) rfl,hTL.grow hC' hR (fun k hk=> .inr (.inr (.inl hk))) (fun he=>hnn nb (.inr (.inr (.inl (by rw [←hqvu,he,hqnb])))) rfl) (by omega) (cl 24 (by kernel_rfl)) (cl 27 (by kernel_rfl)) (cl 30 (by kernel_rfl)) (by decide) (by decide) (by decide) (.inr ⟨by decide,by decide⟩) (.inl rfl) (.inr ⟨by decide,by decide⟩) (by decide),fun j u hj hkj h=>GL.typ hC' hR j u (by intro _;decide) (by rintro (rfl|rfl);exact absurd rfl hkj;exact absurd rfl hj) (by intro _;decide) h⟩
  |16,_=>
   exact wo_pure rfl hok' rfl ⟨gS (d0:=21) rfl (show _=pv q.p by rw [hqp];rfl),gT (d0:=21) rfl,hTL.no (Chg.refl _ No) (by decide) (by decide) (by decide) (by decide) (by decide) (by decide),fun _ _ _ _ h=>h⟩
  |17,_=>
   obtain ⟨v,hv,e1⟩:=g 16 (by kernel_rfl) (by decide) _ rfl
   have e2:v= .pointer (some ⟨p,0,none⟩):=by rw [show v=pv q.p from e1,hqp];rfl
   subst e2
   exact wo_pure rfl (hok'.cons hv) rfl ⟨gS (d0:=22) rfl (show _=pv q.p by rw [hqp];rfl),gT (d0:=22) rfl,hTL.no (Chg.refl _ No) (by decide) (by decide) (by decide) (by decide) (by decide) (by decide),fun _ _ _ _ h=>h⟩
  |18,_=>
   obtain ⟨v,hv,e1⟩:=g 17 (by kernel_rfl) (by decide) _ rfl
   have e2:v= .pointer (some ⟨p,0,none⟩):=by rw [show v=pv q.p from e1,hqp];rfl
   subst e2
   exact wo_run rfl (want_L rfl) rfl (hok'.cons hv) (r_fa rfl) ⟨gS (d0:=23) rfl (show _=Value.pointer (some ⟨q.p,2,none⟩) by rw [hqp]),gT (d0:=23) rfl,hTL.no (Chg.refl _ No) (by decide) (by decide) (by decide) (by decide) (by decide) (by decide),fun _ _ _ _ h=>h⟩
  |19,_=>
   obtain ⟨v,hv,e1⟩:=g 18 (by kernel_rfl) (by decide) _ rfl
   have e2:v= .pointer (some ⟨p,2,none⟩):=by rw [show v=Value.pointer (some ⟨q.p,2,none⟩) from e1,hqp]
   subst e2
   have hB:=hTL.b0 (cl 24 (by kernel_rfl))
   rw [hqp] at hB
   exact wo_run rfl (want_L rfl) rfl (hok'.cons hv) (r_loadB rfl hB (by rfl)) ⟨gS (d0:=24) rfl (show _=q.vr from rfl),gT (d0:=24) rfl,hTL.no (Chg.refl _ No) (by decide) (by decide) (by decide) (by decide) (by decide) (by decide),fun _ _ _ _ h=>h⟩
  |20,_=>
   have hN:=New.mk' y 22 [nV]
   exact wo_run rfl (want_L rfl) rfl hok' (run_bs1 rfl (by rfl) (by rfl) (by decide) (by decide)) ⟨gS (d0:=25) rfl (show RdS _ 22 1 _ 1 [nV] from RdS.new (New.mk' y 22 [nV]) rfl (by simp [Value.oneCell'])),gT (d0:=25) rfl,hTL.no hN.chg (by decide) (by decide) (by decide) (by decide) (by decide) (by decide),fun j u _ _ h=>GL.no hN.chg j u h⟩
  |21,_=>
   obtain ⟨v1,hv1,e1⟩:=g 19 (by kernel_rfl) (by decide) _ rfl
   obtain ⟨v2,hv2,e2⟩:=g 20 (by kernel_rfl) (by decide) _ rfl
   have e1:v1=q.vr:=e1
   subst e1
   have hO:=hTL.o21 hbi
   have hR:OneT y 22 (fun k=>q.vr.ownBlock=some k):=fun k hk=>hO.blk hk
   refine wo_append (by rfl) (by decide) rfl (want_L rfl) ((hok'.cons hv1).cons hv2) rfl rfl hO e2 (by omega) (by omega) (fun v' y' hO' hC' hr'=> ?_)
   exact ⟨gS (d0:=26) rfl (show NX _ _ _ _ _ _ _ _ from ⟨hO',hr'.imp id (fun ⟨k,h3,h4⟩=>⟨k,h3,by omega⟩)⟩),gT (d0:=26) rfl,hTL.grow hC' hR (fun k hk=> .inr (.inr (.inr hk))) (fun he=>hnn nb (.inr (.inr (.inr (.inl (by rw [←hqvr,he,hqnb]))))) rfl) (by omega) (cl 24 (by kernel_rfl)) (cl 27 (by kernel_rfl)) (cl 30 (by kernel_rfl)) (by decide) (by decide) (by decide) (.inr ⟨by decide,by decide⟩) (.inr ⟨by decide,by decide⟩) (.inl rfl) (by decide),fun j u hj hkj h=>GL.typ hC' hR j u (by intro _;decide) (by intro _;decide) (by rintro (rfl|rfl);exact absurd rfl hkj;exact absurd rfl hj) h⟩
  |22,_=>
   obtain ⟨v,hv,e1⟩:=g 0 (by kernel_rfl) (by decide) _ rfl
   have e2:v= .pointer (some ⟨p,0,none⟩):=by rw [show v=pv q.p from e1,hqp];rfl
   subst e2
   exact wo_pure rfl (hok'.cons hv) rfl ⟨gS (d0:=27) rfl (show _=pv q.p by rw [hqp];rfl),gT (d0:=27) rfl,hTL.no (Chg.refl _ No) (by decide) (by decide) (by decide) (by decide) (by decide) (by decide),fun _ _ _ _ h=>h⟩
  |23,_=>
   obtain ⟨v,hv,e1⟩:=g 22 (by kernel_rfl) (by decide) _ rfl
   have e2:v= .pointer (some ⟨p,0,none⟩):=by rw [show v=pv q.p from e1,hqp];rfl
   subst e2
   exact wo_run rfl (want_L rfl) rfl (hok'.cons hv) (r_fa rfl) ⟨gS (d0:=28) rfl (show _=Value.pointer (some ⟨q.p,0,none⟩) by rw [hqp]),gT (d0:=28) rfl,hTL.no (Chg.refl _ No) (by decide) (by decide) (by decide) (by decide) (by decide) (by decide),fun _ _ _ _ h=>h⟩
  |24,_=>
   obtain ⟨v,hv,e1⟩:=g 23 (by kernel_rfl) (by decide) _ rfl
   have e2:v= .pointer (some ⟨p,0,none⟩):=by rw [show v=Value.pointer (some ⟨q.p,0,none⟩) from e1,hqp]
   subst e2
   obtain ⟨u,hu',e3⟩:=g 9 (by kernel_rfl) (by decide) _ rfl
   have e3:NX 80 7 q.vn q.W (q.n+1) (q.cn++q.mc) u y:=e3
   obtain ⟨Au,cu',hus,_⟩:=e3.1.rd.form
   subst hus
   have hB:=hTL.b0 hbi
   rw [hqp] at hB
   refine wo_store rfl (want_L rfl) ((hok'.cons hv).cons hu') rfl rfl (by rfl) hB (by simp [Value.cells]) (by simp [Value.cells,Value.oneCell']) (fun y' hU=> ?_)
   have hB':Blk y' q.p 106 [.slice Au (q.n+1) cu',q.vu,q.vr]:=by rw [hqp];exact hU.blk
   have hR:OneT y 106 (fun k=>k=p):=fun k hk=>⟨_,hk▸hB⟩
   have hC':Chg y y' (fun k=>k=p):=hU.chg
   exact ⟨gN rfl,fun _=>rfl,⟨hTL.chg.trans hC' (fun k _ hk=> .inl (by rw [hqp];exact hk)),hTL.nb.typ hC' hR (by decide),(fun hb=>(hTL.o9 (by rwa [gd_ne (by decide)] at hb)).typ hC' hR (by decide)),(fun hb=>(hTL.o15 (by rwa [gd_ne (by decide)] at hb)).typ hC' hR (by decide)),(fun hb=>(hTL.o21 (by rwa [gd_ne (by decide)] at hb)).typ hC' hR (by decide)),(fun hb=>by rw [gd_eq (by omega)] at hb;cases hb),(fun _ _=>⟨_,hB',e3.typ hC' hR (by decide)⟩),(fun ha=>by rw [gd_ne (by decide),cl 27 (by kernel_rfl)] at ha;cases ha),(fun ha=>by rw [gd_ne (by decide),cl 30 (by kernel_rfl)] at ha;cases ha)⟩,fun j u hj hkj h=>GL.typ hC' hR j u (fun _=>by decide) (fun _=>by decide) (fun _=>by decide) h⟩
  |25,_=>
   obtain ⟨v,hv,e1⟩:=g 1 (by kernel_rfl) (by decide) _ rfl
   have e2:v= .pointer (some ⟨p,0,none⟩):=by rw [show v=pv q.p from e1,hqp];rfl
   subst e2
   exact wo_pure rfl (hok'.cons hv) rfl ⟨gS (d0:=29) rfl (show _=pv q.p by rw [hqp];rfl),gT (d0:=29) rfl,hTL.no (Chg.refl _ No) (by decide) (by decide) (by decide) (by decide) (by decide) (by decide),fun _ _ _ _ h=>h⟩
  |26,_=>
   obtain ⟨v,hv,e1⟩:=g 25 (by kernel_rfl) (by decide) _ rfl
   have e2:v= .pointer (some ⟨p,0,none⟩):=by rw [show v=pv q.p from e1,hqp];rfl
   subst e2
   exact wo_run rfl (want_L rfl) rfl (hok'.cons hv) (r_fa rfl) ⟨gS (d0:=30) rfl (show _=Value.pointer (some ⟨q.p,1,none⟩) by rw [hqp]),gT (d0:=30) rfl,hTL.no (Chg.refl _ No) (by decide) (by decide) (by decide) (by decide) (by decide) (by decide),fun _ _ _ _ h=>h⟩
  |27,_=>
   obtain ⟨v,hv,e1⟩:=g 26 (by kernel_rfl) (by decide) _ rfl
   have e2:v= .pointer (some ⟨p,1,none⟩):=by rw [show v=Value.pointer (some ⟨q.p,1,none⟩) from e1,hqp]
   subst e2
   obtain ⟨u,hu',e3⟩:=g 15 (by kernel_rfl) (by decide) _ rfl
   have e3:NX 3 1 q.vu q.W (q.n+1) (q.cu++ [mOne]) u y:=e3
   obtain ⟨Au,cu',hus,_⟩:=e3.1.rd.form
   subst hus
   obtain ⟨x1,hB,n1⟩:=hTL.b1 (hwt 24 (by kernel_rfl)) hbi
   rw [hqp] at hB
   refine wo_store rfl (want_L rfl) ((hok'.cons hv).cons hu') rfl rfl (by rfl) hB (by simp [Value.cells]) (by simp [Value.cells,Value.oneCell']) (fun y' hU=> ?_)
   have hB':Blk y' q.p 106 [x1,.slice Au (q.n+1) cu',q.vr]:=by rw [hqp];exact hU.blk
   have hR:OneT y 106 (fun k=>k=p):=fun k hk=>⟨_,hk▸hB⟩
   have hC':Chg y y' (fun k=>k=p):=hU.chg
   exact ⟨gN rfl,fun _=>rfl,⟨hTL.chg.trans hC' (fun k _ hk=> .inl (by rw [hqp];exact hk)),hTL.nb.typ hC' hR (by decide),(fun hb=>(hTL.o9 (by rwa [gd_ne (by decide)] at hb)).typ hC' hR (by decide)),(fun hb=>(hTL.o15 (by rwa [gd_ne (by decide)] at hb)).typ hC' hR (by decide)),(fun hb=>(hTL.o21 (by rwa [gd_ne (by decide)] at hb)).typ hC' hR (by decide)),(fun hb=>by rw [gd_ne (by decide),hwt 24 (by kernel_rfl)] at hb;cases hb),(fun _ hb=>by rw [gd_eq (by omega)] at hb;cases hb),(fun _ _=>⟨_,_,hB',n1.typ hC' hR (by decide),e3.typ hC' hR (by decide)⟩),(fun ha=>by rw [gd_ne (by decide),cl 30 (by kernel_rfl)] at ha;cases ha)⟩,fun j u hj hkj h=>GL.typ hC' hR j u (fun _=>by decide) (fun _=>by decide) (fun _=>by decide) h⟩
  |28,_=>
   obtain ⟨v,hv,e1⟩:=g 2 (by kernel_rfl) (by decide) _ rfl
   have e2:v= .pointer (some ⟨p,0,none⟩):=by rw [show v=pv q.p from e1,hqp];rfl
   subst e2
   exact wo_pure rfl (hok'.cons hv) rfl ⟨gS (d0:=31) rfl (show _=pv q.p by rw [hqp];rfl),gT (d0:=31) rfl,hTL.no (Chg.refl _ No) (by decide) (by decide) (by decide) (by decide) (by decide) (by decide),fun _ _ _ _ h=>h⟩
  |29,_=>
   obtain ⟨v,hv,e1⟩:=g 28 (by kernel_rfl) (by decide) _ rfl
   have e2:v= .pointer (some ⟨p,0,none⟩):=by rw [show v=pv q.p from e1,hqp];rfl
   subst e2
   exact wo_run rfl (want_L rfl) rfl (hok'.cons hv) (r_fa rfl) ⟨gS (d0:=32) rfl (show _=Value.pointer (some ⟨q.p,2,none⟩) by rw [hqp]),gT (d0:=32) rfl,hTL.no (Chg.refl _ No) (by decide) (by decide) (by decide) (by decide) (by decide) (by decide),fun _ _ _ _ h=>h⟩
  |30,_=>
   obtain ⟨v,hv,e1⟩:=g 29 (by kernel_rfl) (by decide) _ rfl
   have e2:v= .pointer (some ⟨p,2,none⟩):=by rw [show v=Value.pointer (some ⟨q.p,2,none⟩) from e1,hqp]
   subst e2
   obtain ⟨u,hu',e3⟩:=g 21 (by kernel_rfl) (by decide) _ rfl
   have e3:NX 22 1 q.vr q.W (q.n+1) (q.cr++ [nV]) u y:=e3
   obtain ⟨Au,cu',hus,_⟩:=e3.1.rd.form
   subst hus
   obtain ⟨x1,x2,hB,n1,n2⟩:=hTL.b2 (hwt 27 (by kernel_rfl)) hbi
   rw [hqp] at hB
   refine wo_store rfl (want_L rfl) ((hok'.cons hv).cons hu') rfl rfl (by rfl) hB (by simp [Value.cells]) (by simp [Value.cells,Value.oneCell']) (fun y' hU=> ?_)
   have hB':Blk y' q.p 106 [x1,x2,.slice Au (q.n+1) cu']:=by rw [hqp];exact hU.blk
   have hR:OneT y 106 (fun k=>k=p):=fun k hk=>⟨_,hk▸hB⟩
   have hC':Chg y y' (fun k=>k=p):=hU.chg
   exact ⟨gN rfl,fun _=>rfl,⟨hTL.chg.trans hC' (fun k _ hk=> .inl (by rw [hqp];exact hk)),hTL.nb.typ hC' hR (by decide),(fun hb=>(hTL.o9 (by rwa [gd_ne (by decide)] at hb)).typ hC' hR (by decide)),(fun hb=>(hTL.o15 (by rwa [gd_ne (by decide)] at hb)).typ hC' hR (by decide)),(fun hb=>(hTL.o21 (by rwa [gd_ne (by decide)] at hb)).typ hC' hR (by decide)),(fun hb=>by rw [gd_ne (by decide),hwt 24 (by kernel_rfl)] at hb;cases hb),(fun _ hb=>by rw [gd_ne (by decide),hwt 27 (by kernel_rfl)] at hb;cases hb),(fun _ hb=>by rw [gd_eq (by omega)] at hb;cases hb),(fun _=>⟨_,_,_,hB',n1.typ hC' hR (by decide),n2.typ hC' hR (by decide),e3.typ hC' hR (by decide)⟩)⟩,fun j u hj hkj h=>GL.typ hC' hR j u (fun _=>by decide) (fun _=>by decide) (fun _=>by decide) h⟩
  |k+31,hk=>omega
 ·intro b a y hall hL
  obtain ⟨hok',hTL,_⟩:=hL
  obtain ⟨v',u',r',hB,n1,n2,n3⟩:=hTL.b3 (hall 30 (by decide))
  have hC:=hTL.chg
  subst hq
  dsimp only [SL] at hB n1 n2 n3 hC
  refine np_zk (e:= [(0,.pointer (some ⟨p,0,none⟩)),(3,.pointer (some ⟨nb,0,none⟩))]) ?_ hok'
  obtain ⟨An,cn,hv',hcn⟩:=n1.1.rd.form
  subst hv'
  refine zz ?_
  have hS: ∀k,SL ⟨p,nb,w1.heap.size,N.length,vn,vu,vr,encN ms,upC N,ks,[.int .i64 x.kind,.int .i64 x.space,.string x.name,.slice Aa x.attrs.length ca,.string (bs x.text),.int .i64 0,.slice none 0 0]⟩ k→fR p vn vu vr ks k:=fun k hk=>by
   rcases hk with hk|hk|hk|hk
   ·exact .inl hk
   ·exact .inr (.inl hk)
   ·exact .inr (.inr (.inl hk))
   ·exact .inr (.inr (.inr (.inl hk)))
  have h45: ∀b cells,Blk w1 b 45 cells→ ¬(b=p∨vn.ownBlock=some b∨vu.ownBlock=some b∨vr.ownBlock=some b):=fun b cells hb hk=>h1.no45 b cells hb (hS b hk)
  have hsz1:=hN1.chg.size
  have hA':AttrS y (.slice Aa x.attrs.length ca) x.attrs:=RdS.chg (hA.no hN1.chg) hC h45
  refine zk_ret1 (.inr rfl) rfl rfl ⟨by congr 2;omega,_,u',r',ms++ [⟨x.kind,x.space,x.name,.slice Aa x.attrs.length ca,bs x.text,0,nV⟩],ks++ [nV],⟨hB,?_,?_,?_,by simp [h.lm],by simp [h.lk],?_,?_⟩,?_,?_,?_⟩
  ·rw [List.length_append,encN_app];exact n1.1
  ·rw [List.length_append,upC_app]
   have:upC [x]= [mOne]:=by simp [upC,hu]
   rw [this];exact n2.1
  ·rw [List.length_append];exact n3.1
  ·intro i hi
   rw [getD_snoc,getD_snoc,h.lm]
   by_cases hin:i=N.length
   ·rw [if_pos hin,if_pos hin]
    exact ⟨⟨rfl,rfl,rfl,hA',rfl,rfl⟩,rfl⟩
   ·rw [if_neg hin,if_neg hin]
    have hi':i<N.length:=by simp at hi;omega
    exact ⟨(h1.at_ i hi').1.chg' hC h45,(h1.at_ i hi').2⟩
  ·intro i hi
   rw [getD_snoc,getD_snoc,h.lk]
   by_cases hin:i=N.length
   ·rw [if_pos hin,if_pos hin,hk]
    exact ⟨Own.nil,fun k hk=>by cases hk⟩
   ·rw [if_neg hin,if_neg hin]
    have hi':i<N.length:=by simp at hi;omega
    obtain ⟨hK,hK2⟩:=h1.kid i hi'
    refine ⟨hK.chg hC (fun k hk hs=> ?_),fun k hk he=> ?_⟩
    ·rcases hs with hs|hs|hs|hs
     ·exact hK.ne hk h1.blk (by decide) hs
     ·obtain ⟨cs,hb⟩:=h1.own.blk hs;exact hK.ne hk hb (by decide) rfl
     ·exact hK2 k hk hs
     ·obtain ⟨cs,hb⟩:=h1.rws.blk hs;exact hK.ne hk hb (by decide) rfl
    ·rcases n2.2 with e1|⟨k',e1,e2⟩
     ·rw [e1] at he;exact hK2 k hk he
     ·rw [he] at e1;cases e1;have:=hK.lt hk;omega
  ·exact (hN1.chg.mono (fun _ _ h=>h.elim)).trans hC (fun k _ hk=>hS k hk)
  ·rintro k (hk'|hk'|hk'|hk'|⟨i,hi,hk'⟩)
   ·exact .inl (.inl hk')
   ·rcases n1.2 with e1|⟨k',e1,e2⟩
    ·exact .inl (.inr (.inl (e1▸hk')))
    ·rw [hk'] at e1;cases e1;exact .inr (by omega)
   ·rcases n2.2 with e1|⟨k',e1,e2⟩
    ·exact .inl (.inr (.inr (.inl (e1▸hk'))))
    ·rw [hk'] at e1;cases e1;exact .inr (by omega)
   ·rcases n3.2 with e1|⟨k',e1,e2⟩
    ·exact .inl (.inr (.inr (.inr (.inl (e1▸hk')))))
    ·rw [hk'] at e1;cases e1;exact .inr (by omega)
   ·rw [getD_snoc] at hk'
    by_cases hin:i=ks.length
    ·rw [if_pos hin] at hk';cases hk'
    ·rw [if_neg hin] at hk'
     exact .inl (.inr (.inr (.inr (.inr ⟨i,by simp at hi;omega,hk'⟩))))
  ·exact fun b cells hb=>(hb.no hN1.chg).chg hC (h45 b cells (hb.no hN1.chg))
theorem lay_one (v:Value): ∀(l:List Value) (i:Nat),i<l.length→Z.lay l i [v]=l.set i v
 | [],i,h=>by simp at h
 |a::r,0,h=>by simp [Z.lay]
 |a::r,i+1,h=>by
  have:=lay_one v r i (by simpa using h)
  simp only [Z.lay,List.length_cons,List.length_nil] at this ⊢
  simp only [List.set_cons_succ,←this]
  simp
section
variable {w w' : World} {p : Nat} {vn vu vr : Value} {ms : List MN} {ks : List Value} {N : List ND}
theorem own_b {t sz m:Nat} {v:Value} {cs:List Value} (h:Own w t sz v m cs) (hm:0<m): ∃b c,v= .slice (some ⟨b,0,none⟩) m c∧m≤c:=by
 rcases h.cases.2 with ⟨_,h0,_⟩|⟨b,cap,junk,hv,hc,_⟩
 ·omega
 ·exact ⟨b,cap,hv,hc⟩
theorem IsR.row (h:IsR w p vn vu vr ms ks N) (i:Nat) (hi:i<N.length): ∃bo co cells,vr= .slice (some ⟨bo,0,none⟩) N.length co∧N.length≤co∧Blk w bo 22 cells∧i+1≤cells.length∧
  ∀(v:Value) (l:List Nat),Own w 3 1 v l.length (intC l)→(∀k,v.ownBlock=some k→vu.ownBlock≠some k)→ ∀w',Upd w w' bo 22 (Z.lay cells i [v])→
   IsR w' p vn vu vr ms (ks.set i v) (N.set i {N.getD i n0 with kids:=l})∧Chg w w' (fR p vn vu vr ks)∧(∀k,fR p vn vu vr (ks.set i v) k→fR p vn vu vr ks k∨v.ownBlock=some k)∧ ∀b cells,Blk w b 45 cells→Blk w' b 45 cells:=by
 obtain ⟨bo,co,hv,hco⟩:=own_b h.rws (by omega)
 have hO:=h.rws
 rw [hv] at hO
 have hlk:=h.lk
 refine ⟨bo,co,?_⟩
 obtain ⟨c0,hc0⟩:=hO.blk (k:=bo) rfl
 have hx:=fun (v:Value) (hv1:v.oneCell'=true)=>hO.lay (o:=i) (vs:= [v]) (by simp;omega) (by simpa using hv1)
 obtain ⟨cells,hB,hfit,_,_⟩:=hx (.int .i64 0) rfl
 refine ⟨cells,hv,hco,hB,by simpa using hfit,fun v l hvl hsep w' hU=> ?_⟩
 have hv1:v.oneCell'=true:=by obtain ⟨A,c,hvf,_⟩:=hvl.rd.form;rw [hvf];rfl
 obtain ⟨cells',hB',_,_,hnew⟩:=hx v hv1
 obtain rfl:=(hB.inj hB').2
 have hO':=hnew w' hU
 rw [lay_one v ks i (by omega)] at hO'
 have hC:=hU.chg
 have hvr:vr.ownBlock=some bo:=by rw [hv];rfl
 have hR:OneT w 22 (fun k=>k=bo):=fun k hk=>⟨_,hk▸hB⟩
 refine ⟨⟨h.blk.typ hC hR (by decide),?_,?_,?_,by simp [h.lm],by simp [h.lk],fun j hj=> ?_,fun j hj=> ?_⟩,hC.mono (fun k _ hk=> .inr (.inr (.inr (.inl (by rw [hvr,hk]))))),?_,fun b cells hb=>hb.typ hC hR (by decide)⟩
 ·rw [List.length_set];exact h.own.typ hC hR (by decide)
 ·rw [List.length_set]
  have e:upC (N.set i {N.getD i n0 with kids:=l})=upC N:=by
   apply List.ext_getElem?
   intro j
   simp only [upC,List.getElem?_map,List.getElem?_set]
   by_cases hij:i=j
   ·subst hij
    simp [hi,List.getD_eq_getElem?_getD]
   ·rw [if_neg hij]
  rw [e];exact h.ups.typ hC hR (by decide)
 ·rw [List.length_set,hv];exact hO'
 ·rw [List.length_set] at hj
  rw [getD_set _ _ _ _ _ hi]
  have hy:RN w' (ms.getD j MN.z) (N.getD j n0):=⟨(h.at_ j hj).1.chg' hC (fun b cells hb hk=>by obtain ⟨cs,hb2⟩:=hR b hk;exact absurd (hb.inj hb2).1 (by decide)),(h.at_ j hj).2⟩
  by_cases hji:j=i
  ·rw [if_pos hji];subst hji;exact hy
  ·rw [if_neg hji];exact hy
 ·rw [List.length_set] at hj
  rw [getD_set _ _ _ _ _ hi,getD_set _ _ _ _ _ (by omega)]
  by_cases hji:j=i
  ·rw [if_pos hji,if_pos hji]
   exact ⟨hvl.typ hC hR (by decide),hsep⟩
  ·rw [if_neg hji,if_neg hji]
   exact ⟨(h.kid j hj).1.typ hC hR (by decide),(h.kid j hj).2⟩
 ·rintro k (hk|hk|hk|hk|⟨j,hj,hk⟩)
  ·exact .inl (.inl hk)
  ·exact .inl (.inr (.inl hk))
  ·exact .inl (.inr (.inr (.inl hk)))
  ·exact .inl (.inr (.inr (.inr (.inl hk))))
  ·rw [List.length_set] at hj
   rw [getD_set _ _ _ _ _ (by omega)] at hk
   by_cases hji:j=i
   ·rw [if_pos hji] at hk;exact .inr hk
   ·rw [if_neg hji] at hk;exact .inl (.inr (.inr (.inr (.inr ⟨j,hj,hk⟩))))
theorem IsR.upset (h:IsR w p vn vu vr ms ks N) (i:Nat) (hi:i<N.length): ∃bo co cells,vu= .slice (some ⟨bo,0,none⟩) N.length co∧N.length≤co∧Blk w bo 3 cells∧i+1≤cells.length∧
  ∀(z:Int) (w':World),Upd w w' bo 3 (Z.lay cells i [.int .i64 z])→
   IsR w' p vn vu vr ms ks (N.set i {N.getD i n0 with up:=z})∧Chg w w' (fR p vn vu vr ks)∧ ∀b cells,Blk w b 45 cells→Blk w' b 45 cells:=by
 obtain ⟨bo,co,hv,hco⟩:=own_b h.ups (by omega)
 have hO:=h.ups
 rw [hv] at hO
 refine ⟨bo,co,?_⟩
 have hx:=fun (z:Int)=>hO.lay (o:=i) (vs:= [.int .i64 z]) (by simp [upC];omega) (by simp [Value.oneCell'])
 obtain ⟨cells,hB,hfit,_,_⟩:=hx 0
 refine ⟨cells,hv,hco,hB,by simpa using hfit,fun z w' hU=> ?_⟩
 obtain ⟨cells',hB',_,_,hnew⟩:=hx z
 obtain rfl:=(hB.inj hB').2
 have hO':=hnew w' hU
 rw [lay_one _ (upC N) i (by simp [upC];omega)] at hO'
 have hC:=hU.chg
 have hvu:vu.ownBlock=some bo:=by rw [hv];rfl
 have hR:OneT w 3 (fun k=>k=bo):=fun k hk=>⟨_,hk▸hB⟩
 refine ⟨⟨h.blk.typ hC hR (by decide),?_,?_,?_,by simp [h.lm],by simp [h.lk],fun j hj=> ?_,fun j hj=> ?_⟩,hC.mono (fun k _ hk=> .inr (.inr (.inl (by rw [hvu,hk])))),fun b cells hb=>hb.typ hC hR (by decide)⟩
 ·rw [List.length_set];exact h.own.typ hC hR (by decide)
 ·rw [List.length_set,hv]
  have e:upC (N.set i {N.getD i n0 with up:=z})=(upC N).set i (.int .i64 z):=by simp [upC,List.map_set]
  rw [e];exact hO'
 ·rw [List.length_set];exact h.rws.typ hC hR (by decide)
 ·rw [List.length_set] at hj
  rw [getD_set _ _ _ _ _ hi]
  have hy:RN w' (ms.getD j MN.z) (N.getD j n0):=⟨(h.at_ j hj).1.chg' hC (fun b cells hb hk=>by obtain ⟨cs,hb2⟩:=hR b hk;exact absurd (hb.inj hb2).1 (by decide)),(h.at_ j hj).2⟩
  by_cases hji:j=i
  ·rw [if_pos hji];subst hji;exact hy
  ·rw [if_neg hji];exact hy
 ·rw [List.length_set] at hj
  rw [getD_set _ _ _ _ _ hi]
  have hy:Own w' 3 1 (ks.getD j nV) (N.getD j n0).kids.length (intC (N.getD j n0).kids)∧ ∀k,(ks.getD j nV).ownBlock=some k→vu.ownBlock≠some k:=⟨(h.kid j hj).1.chg hC (fun k hk he=>(h.kid j hj).2 k hk (by rw [hvu,he])),(h.kid j hj).2⟩
  by_cases hji:j=i
  ·rw [if_pos hji];subst hji;exact hy
  ·rw [if_neg hji];exact hy
theorem encN_text (s:ByteArray): ∀(ms:List MN) (i:Nat),i<ms.length→Z.lay (encN ms) (i*7+4) [.string s]=encN (ms.set i {ms.getD i MN.z with text:=s})
 | [],i,h=>by simp at h
 |a::r,0,h=>by simp [Z.lay,encN,MN.cells]
 |a::r,i+1,h=>by
  have ih:=encN_text s r i (by simpa using h)
  have e:(i+1)*7+4=i*7+4+1+1+1+1+1+1+1:=by omega
  simp only [Z.lay,encN,List.set_cons_succ,MN.cells,List.length_cons,List.length_nil,List.getD_cons_succ] at ih ⊢
  rw [←ih,e]
  simp [Nat.add_assoc]
theorem IsR.txset (h:IsR w p vn vu vr ms ks N) (i:Nat) (hi:i<N.length): ∃bo co cells,vn= .slice (some ⟨bo,0,none⟩) N.length co∧N.length≤co∧Blk w bo 80 cells∧i*7+5≤cells.length∧
  ∀(s:List UInt8) (w':World),Upd w w' bo 80 (Z.lay cells (i*7+4) [.string (bs s)])→
   ∃ms',IsR w' p vn vu vr ms' ks (N.set i {N.getD i n0 with text:=s})∧Chg w w' (fR p vn vu vr ks)∧ ∀b cells,Blk w b 45 cells→Blk w' b 45 cells:=by
 obtain ⟨bo,co,hv,hco⟩:=own_b h.own (by omega)
 have hO:=h.own
 rw [hv] at hO
 have hlm:=h.lm
 have hel:=encN_len ms
 refine ⟨bo,co,?_⟩
 have hx:=fun (s:List UInt8)=>hO.lay (o:=i*7+4) (vs:= [.string (bs s)]) (by rw [hel];simp;omega) (by simp [Value.oneCell'])
 obtain ⟨cells,hB,hfit,_,_⟩:=hx []
 refine ⟨cells,hv,hco,hB,by simpa using hfit,fun s w' hU=> ?_⟩
 obtain ⟨cells',hB',_,_,hnew⟩:=hx s
 obtain rfl:=(hB.inj hB').2
 have hO':=hnew w' hU
 rw [encN_text (bs s) ms i (by omega)] at hO'
 have hC:=hU.chg
 have hvn:vn.ownBlock=some bo:=by rw [hv];rfl
 have hR:OneT w 80 (fun k=>k=bo):=fun k hk=>⟨_,hk▸hB⟩
 refine ⟨ms.set i {ms.getD i MN.z with text:=bs s},⟨h.blk.typ hC hR (by decide),?_,?_,?_,by simp [h.lm],by simp [h.lk],fun j hj=> ?_,fun j hj=> ?_⟩,hC.mono (fun k _ hk=> .inr (.inl (by rw [hvn,hk]))),fun b cells hb=>hb.typ hC hR (by decide)⟩
 ·rw [List.length_set,hv];exact hO'
 ·rw [List.length_set]
  have e:upC (N.set i {N.getD i n0 with text:=s})=upC N:=by
   apply List.ext_getElem?
   intro j
   simp only [upC,List.getElem?_map,List.getElem?_set]
   by_cases hij:i=j
   ·subst hij
    simp [hi,List.getD_eq_getElem?_getD]
   ·rw [if_neg hij]
  rw [e];exact h.ups.typ hC hR (by decide)
 ·rw [List.length_set];exact h.rws.typ hC hR (by decide)
 ·rw [List.length_set] at hj
  rw [getD_set _ _ _ _ _ hi,getD_set _ _ _ _ _ (by omega)]
  have hy:RN w' (ms.getD j MN.z) (N.getD j n0):=⟨(h.at_ j hj).1.chg' hC (fun b cells hb hk=>by obtain ⟨cs,hb2⟩:=hR b hk;exact absurd (hb.inj hb2).1 (by decide)),(h.at_ j hj).2⟩
  by_cases hji:j=i
  ·rw [if_pos hji,if_pos hji];subst hji
   obtain ⟨⟨g1,g2,g3,g4,g5,g6⟩,g7⟩:=hy
   exact ⟨⟨g1,g2,g3,g4,rfl,g6⟩,g7⟩
  ·rw [if_neg hji,if_neg hji];exact hy
 ·rw [List.length_set] at hj
  rw [getD_set _ _ _ _ _ hi]
  have hy:Own w' 3 1 (ks.getD j nV) (N.getD j n0).kids.length (intC (N.getD j n0).kids)∧ ∀k,(ks.getD j nV).ownBlock=some k→vu.ownBlock≠some k:=⟨(h.kid j hj).1.typ hC hR (by decide),(h.kid j hj).2⟩
  by_cases hji:j=i
  ·rw [if_pos hji];subst hji;exact hy
  ·rw [if_neg hji];exact hy
end
def FO (W:Nat) (w:World) (v:Value) (m:Nat) (cs:List Value):Prop:=Own w 3 1 v m cs∧ ∀k,v.ownBlock=some k→W≤k
section
variable {W m m' : Nat} {w w' w0 : World} {v v' : Value} {cs cs' : List Value}
theorem FO.no (h:FO W w v m cs) (hc:Chg w w' No):FO W w' v m cs:=⟨h.1.no hc,h.2⟩
theorem FO.grow (h:FO W w v m cs) (hW:W≤w.heap.size) (hO:Own w' 3 1 v' m' cs') (hr:v'.ownBlock=v.ownBlock∨ ∃k,v'.ownBlock=some k∧w.heap.size≤k):FO W w' v' m' cs':=⟨hO,fun k hk=>by
 rcases hr with e|⟨j,e,e2⟩
 ·exact h.2 k (e▸hk)
 ·rw [hk] at e;cases e;omega⟩
theorem FO.ch (h:FO w0.heap.size w v m cs) (h0:Chg w0 w No) (hc:Chg w w' (fun k=>v.ownBlock=some k)):Chg w0 w' No:=h0.trans hc (fun k hk he=>by have:=h.2 k he;omega)
theorem FO.rd (h:FO W w v m cs) (hc:Chg w w' (fun k=>v.ownBlock=some k)) {x:Value} {n:Nat} {xs:List Value} (hr:RdS w 3 1 x n xs) (hne: ∀k,v.ownBlock=some k→x.ownBlock≠some k):RdS w' 3 1 x n xs:=RdS.chgAt hr hc (fun _ b _ hb _ he=>hne b he hb)
theorem insK_len (K:List Nat) (a n:Nat) (h:a≤K.length):(insK K a n).length=K.length+1:=by unfold insK;simp;omega
end
section
variable {w : World} {p : Nat} {vn vu vr va : Value} {ms : List MN} {ks : List Value} {N : List ND}
theorem rElem'_calls (h:IsR w p vn vu vr ms ks N) (hl:N.length≤10000000) (sp:Int) (nm:ByteArray) {l:List At} (ha:AttrS w va l) (hal:l.length≤10000000):
  Calls Tryz.prog 120 [.pointer (some ⟨p,0,none⟩),.int .i64 sp,.string nm,va].toArray w fun e w'=>e= .returned (.int .i64 N.length)∧ ∃vn' vu' vr' ms' ks',IsR w' p vn' vu' vr' ms' ks' (N++ [⟨1,sp,nm,l,[], -1,[]⟩])∧WrR w w' p vn vu vr ks vn' vu' vr' ks':=by
 obtain ⟨A0,c0,hv0,_⟩:=ha.form
 subst hv0
 refine zCz 17 Tryz.func120 ?_
 refine zz ?_
 refine z_bs0 (want_L rfl) (by decide) (fun w1 b1 hN1=> ?_)
 have hE1:Own w1 45 2 (.slice (some ⟨b1,0,none⟩) 0 0) 0 []:=Own.empty hN1
 refine zP rfl ?_
 refine z_appendO (by rfl) (by decide) (want_L rfl) (by decide) rfl rfl hE1 (RdS.no ha hN1.chg) (by omega) (by omega) (fun v2 w2 hO2 hX2 hr2=> ?_)
 have hC2:Chg w w2 No:=hN1.chg.trans hX2 (fun k hk he=>by simp only [Value.ownBlock,Option.some.injEq] at he;have:=hN1.at_;omega)
 rw [List.nil_append,Nat.zero_add] at hO2
 have hA2:AttrS w2 v2 l:=hO2.rd
 obtain ⟨A2,c2,rfl,_⟩:=hA2.form
 refine z_buildE #[.int .i64 1,.int .i64 sp,.string nm,.slice A2 l.length c2,.string ⟨#[]⟩,.int .i64 0,.slice none 0 0] (want_L rfl) (by decide) rfl (by kernel_rfl) ?_
 refine zCl rfl (rLay_calls (h.no hC2) hl ⟨1,sp,nm,l,[], -1,[]⟩ rfl rfl hA2) ?_
 rintro _ w3 ⟨rfl,vn',vu',vr',ms',ks',g1,g2⟩
 refine ⟨_,rfl,?_⟩
 refine zz ?_
 exact zk_ret1 (.inr rfl) rfl rfl ⟨rfl,_,_,_,_,_,g1,WrR.pre hC2 g2⟩
theorem rPut_calls (h:IsR w p vn vu vr ms ks N) (hW:WF N) (hl:N.length≤10000000) (n up ahead:Int):
  Calls Tryz.prog 82 [.pointer (some ⟨p,0,none⟩),.int .i64 n,.int .i64 up,.int .i64 ahead].toArray w fun e w'=> ∃q ks' N',e= .returned (.bool q)∧IsR w' p vn vu vr ms ks' N'∧WrR w w' p vn vu vr ks vn vu vr ks'∧PutR N n up ahead q N':=by
 have bad: ¬PutOk N n up ahead→ ∃q ks' N',(Ending.returned (.bool false))= .returned (.bool q)∧IsR w p vn vu vr ms ks' N'∧WrR w w p vn vu vr ks vn vu vr ks'∧PutR N n up ahead q N':=fun hn=>⟨false,ks,N,rfl,h,WrR.refl _ _ _ _ _ _,fun hh=>absurd hh hn,fun _=>⟨rfl,rfl⟩⟩
 refine zCz 83 Tryz.func82 ?_
 refine zz ?_
 refine zCp rfl (rIs_calls h n) ?_
 by_cases h1:isN N n
 rotate_left
 ·rw [decide_eq_false h1]
  refine zz ?_
  exact zk_ret1 (.inr rfl) rfl rfl (bad (fun hh=>h1 hh.1))
 rw [decide_eq_true h1]
 refine zP rfl (zP rfl (zP rfl (zP rfl ?_)))
 refine zCp rfl (rElem_calls h up) ?_
 by_cases h2:isN N up∧(ndOf N up).kind=1
 rotate_left
 ·rw [decide_eq_false h2]
  refine zz ?_
  exact zk_ret1 (.inr rfl) rfl rfl (bad (fun hh=>h2 ⟨hh.2.1,hh.2.2.1⟩))
 rw [decide_eq_true h2]
 by_cases h3:n=0
 ·refine zz ?_
  exact zk_ret1 (.inr rfl) rfl rfl (bad (fun hh=>hh.2.2.2.1 h3))
 obtain ⟨i,rfl⟩:=Int.eq_ofNat_of_zero_le h1.1
 have hi:i<N.length:=by have:=h1.2;omega
 obtain ⟨b,o,c,hv,hp⟩:=h.up i hi
 have hb:=h.blk
 rw [hv] at hb
 refine zz ?_
 refine zL1 rfl (cell_at hp (by omega)) ?_
 by_cases h4:0≤(N.getD i n0).up
 ·refine zz ?_
  exact zk_ret1 (.inr rfl) rfl rfl (bad (fun hh=>by have:(N.getD i n0).up<0:=hh.2.2.2.2.1;omega))
 obtain ⟨j,rfl⟩:=Int.eq_ofNat_of_zero_le h2.1.1
 have hj:j<N.length:=by have:=h2.1.2;omega
 have hkj:=hW.kids_len hj
 refine zz ?_
 refine zCl rfl (rBelow_calls h hW j i hj hi) ?_
 rintro _ u ⟨q1,rfl,hq1,hu⟩
 obtain rfl:=hu.symm
 refine ⟨_,rfl,?_⟩
 cases q1
 rotate_left
 ·refine zz ?_
  exact zk_ret1 (.inr rfl) rfl rfl (bad (fun hh=>hh.2.2.2.2.2.1 (hq1.1 rfl)))
 have hna: ¬Anc N j i:=fun ha=>absurd (hq1.2 ha) Bool.false_ne_true
 refine zz ?_
 refine zCp rfl (rPlace_calls h hW j hj ahead (by omega)) ?_
 cases hpl:placeN (N.getD j n0).kids ahead with
 |none=>
  dsimp only [plI]
  refine zz ?_
  exact zk_ret1 (.inr rfl) rfl rfl (bad (fun hh=>by
   have:(placeN (N.getD j n0).kids ahead).isSome=true:=hh.2.2.2.2.2.2
   rw [hpl] at this;cases this))
 |some a=>
  have hok:PutOk N i j ahead:=⟨h1,h2.1,h2.2,h3,by show (N.getD i n0).up<0;omega,hna,by show (placeN (N.getD j n0).kids ahead).isSome=true;rw [hpl];rfl⟩
  have hal:=placeN_le hpl
  dsimp only [plI]
  obtain ⟨br0,cr0,cells0,hvr0,_⟩:=h.row j hj
  obtain ⟨bu0,cu0,cellsu0,hvu0,_⟩:=h.upset i hi
  obtain ⟨br,or',cr,Ak,ck,hvr,hcr,hks,hck⟩:=h.kd j hj
  have hK:=(h.kid j hj).1
  rw [hks] at hK
  rw [hvr] at hvr0
  cases hvr0
  rw [hv] at hvu0
  cases hvu0
  rw [hvr] at hb
  subst hv
  subst hvr
  have hij:i≠j:=fun he=>hna (he▸Anc.refl i)
  have hlen:0+a+1+((N.getD j n0).kids.length - a)=(N.getD j n0).kids.length+1:=by omega
  refine zz ?_
  refine zc_draw [30] (fun w'=>Chg w w' No∧Blk w' p 106 [vn,.slice (some ⟨b,0,none⟩) N.length c,.slice (some ⟨br0,0,none⟩) N.length cr0]) (.take 0 (.take 1 (.take 2 (.take 3 (.take 4 (.take 6 (.take 7 (.take 8 (.take 9 (.take 10 (.take 11 (.take 12 (.take 13 (.take 14 (.take 16 (.take 19 (.take 20 (.take 21 (.take 22 (.take 23 (.take 24 (.take 25 (.take 26 (.take 27 (.all2 5 (.all2 15 (.all1 17 (.all1 18 (.all1 28 (.take 29 (.last 30))))) 17 (.all1 15 (.all1 18 (.all1 28 (.take 29 (.last 30)))))) 17 (.all1 5 (.all1 15 (.all1 18 (.all1 28 (.take 29 (.last 30))))))))))))))))))))))))))))))) (by rfl) (by kernel_rfl) (by kernel_rfl) (fun w1 hCw1 _=>⟨?_,?_⟩)
  ·exact ⟨hCw1,hb.no hCw1⟩
  refine zz ?_
  refine zRd rfl rfl (fun _ hS=>r_load1 rfl (cell_at (cell_no hS.1 hcr) (by omega))) ?_
  refine ztP rfl rfl (zRd rfl rfl (fun _ hS=>r_cutTo (k:=a) hK.flat rfl rfl (by omega)) ?_)
  refine zz ?_
  refine zRd rfl rfl (fun _ hS=>r_load1 rfl (cell_at (cell_no hS.1 hcr) (by omega))) ?_
  refine ztP rfl rfl (zRd rfl rfl (fun _ hS=>r_cutFrom (k:=a) rfl rfl (by omega) (by omega)) ?_)
  -- BEGIN rput.py
  refine zs_two ?_ ?_
  ·refine zo_bs0 rfl (want_L rfl) (by decide) (fun w2 ca hMw2=> ?_)
   have hCw2:Chg w w2 No:=hCw1.no hMw2.chg
   refine ⟨⟨hCw2,hb.no hCw2⟩,?_⟩
   have hF:FO w.heap.size w2 (.slice (some ⟨ca,0,none⟩) 0 0) 0 []:=⟨Own.empty hMw2,fun k hk=>by simp only [Value.ownBlock,Option.some.injEq] at hk;have:=hMw2.at_;have:=hCw1.size;omega⟩
   refine zs_two ?_ ?_
   ·refine zo_appendO rfl (by rfl) (by decide) (want_L rfl) (by decide) rfl rfl hF.1 ((hK.take a hal).rd.no hCw2) (by omega) (by omega) (fun vw3 w3 hOw3 hXw3 hrw3=> ?_)
    have hCw3:Chg w w3 No:=hF.ch hCw2 hXw3
    refine ⟨⟨hCw3,hb.no hCw3⟩,?_⟩
    have hF:=hF.grow hCw2.size hOw3 hrw3
    obtain ⟨Aw3,cw3,hvw3,_⟩:=hF.1.rd.form
    subst hvw3
    refine zs_bs1 rfl (want_L rfl) (by decide) rfl (by rfl) (by rfl) (by decide) (by decide) (fun w4 cb hMw4=> ?_)
    have hCw4:Chg w w4 No:=hCw3.no hMw4.chg
    refine ⟨⟨hCw4,hb.no hCw4⟩,?_⟩
    have hr1:RdS w4 3 1 (.slice (some ⟨cb,0,none⟩) 1 1) 1 [.int .i64 i]:=RdS.new hMw4 rfl (by simp [Value.oneCell'])
    have hF:=hF.no hMw4.chg
    refine zs_appendO rfl (by rfl) (by decide) (want_L rfl) (by decide) rfl rfl hF.1 hr1 (by omega) (by omega) (fun vw5 w5 hOw5 hXw5 hrw5=> ?_)
    have hCw5:Chg w w5 No:=hF.ch hCw4 hXw5
    refine ⟨⟨hCw5,hb.no hCw5⟩,?_⟩
    have hF:=hF.grow hCw4.size hOw5 hrw5
    obtain ⟨Aw5,cw5,hvw5,_⟩:=hF.1.rd.form
    subst hvw5
    refine zs_appendO rfl (by rfl) (by decide) (want_L rfl) (by decide) rfl rfl hF.1 ((RdS.cut hK.rd (k:=a) hal).no hCw5) (by omega) (by omega) (fun vw6 w6 hOw6 hXw6 hrw6=> ?_)
    have hCw6:Chg w w6 No:=hF.ch hCw5 hXw6
    refine ⟨⟨hCw6,hb.no hCw6⟩,?_⟩
    have hF:=hF.grow hCw5.size hOw6 hrw6
    obtain ⟨Aw6,cw6,hvw6,_⟩:=hF.1.rd.form
    subst hvw6
    refine zz ?_
    have hO:Own w6 3 1 (.slice Aw6 (0+a+1+((N.getD j n0).kids.length - a)) cw6) (insK (N.getD j n0).kids a i).length (intC (insK (N.getD j n0).kids a i)):=by
     rw [insK_len _ _ _ hal,intC_ins]
     have e:=hF.1
     simp only [List.nil_append,Nat.mul_one,List.append_assoc,List.singleton_append] at e
     rw [hlen] at e ⊢
     exact e
    obtain ⟨bo6,co6,cells6,hv6,_,hB6,hfit6,hst6⟩:=(h.no hCw6).row j hj
    cases hv6
    refine zs_storeL (o:=j) rfl (want_L rfl) (ev_ptr rfl (by omega)) rfl rfl hB6 hfit6 (by simp [Value.cells,Value.oneCell']) (fun w7 hU7=> ?_)
    obtain ⟨g1,g2,g3,g4⟩:=hst6 _ _ hO (fun k hk he=>by have:=hF.2 k hk;have:=h.ups.lt he;omega) w7 hU7
    obtain ⟨bu,cu,cellsu,hvu,_,hBu,hfitu,hstu⟩:=g1.upset i (by rw [List.length_set];exact hi)
    rw [List.length_set] at hvu
    have hb7:=g1.blk
    cases hvu
    refine zz ?_
    refine z_store (o:=i) (want_L rfl) (ev_ptr rfl (by omega)) rfl rfl hBu hfitu (by simp [Value.cells,Value.oneCell']) (fun w8 hU8=> ?_)
    obtain ⟨k1,k2,k3⟩:=hstu _ w8 hU8
    refine zz ?_
    refine zk_ret1 (.inr rfl) rfl rfl ⟨true,_,_,rfl,k1,⟨?_,?_,fun b cells hb'=>k3 b cells (g4 b cells (hb'.no hCw6))⟩,fun _=>⟨rfl,?_⟩,fun hh=>absurd hok hh⟩
    ·exact ((hCw6.mono (fun _ _ h=>h.elim)).trans g2 (fun _ _ h=>h)).trans k2 (fun k hk hf=>(g3 k hf).elim id (fun h'=>by have:=hF.2 k h';omega))
    ·intro k hk
     exact (g3 k hk).imp id (fun h'=>hF.2 k h')
    ·have e:(placeN (ndOf N (j:Nat)).kids ahead).getD 0=a:=by show (placeN (N.getD j n0).kids ahead).getD 0=a;rw [hpl];rfl
     show _=layN N i j _
     rw [e]
     unfold layN
     rw [getD_set _ _ _ _ _ hj,if_neg hij]
   ·refine zo_bs1 rfl (want_L rfl) (by decide) rfl (by rfl) (by rfl) (by decide) (by decide) (fun w3 cb hMw3=> ?_)
    have hCw3:Chg w w3 No:=hCw2.no hMw3.chg
    refine ⟨⟨hCw3,hb.no hCw3⟩,?_⟩
    have hr1:RdS w3 3 1 (.slice (some ⟨cb,0,none⟩) 1 1) 1 [.int .i64 i]:=RdS.new hMw3 rfl (by simp [Value.oneCell'])
    have hF:=hF.no hMw3.chg
    refine zs_appendO rfl (by rfl) (by decide) (want_L rfl) (by decide) rfl rfl hF.1 ((hK.take a hal).rd.no hCw3) (by omega) (by omega) (fun vw4 w4 hOw4 hXw4 hrw4=> ?_)
    have hCw4:Chg w w4 No:=hF.ch hCw3 hXw4
    refine ⟨⟨hCw4,hb.no hCw4⟩,?_⟩
    have hr1:=hF.rd hXw4 hr1 (fun k hk he=>by simp only [Value.ownBlock,Option.some.injEq] at hk he;have:=hMw3.at_;have:=hMw2.at_;have:=hMw2.size;omega)
    have hF:=hF.grow hCw3.size hOw4 hrw4
    obtain ⟨Aw4,cw4,hvw4,_⟩:=hF.1.rd.form
    subst hvw4
    refine zs_appendO rfl (by rfl) (by decide) (want_L rfl) (by decide) rfl rfl hF.1 hr1 (by omega) (by omega) (fun vw5 w5 hOw5 hXw5 hrw5=> ?_)
    have hCw5:Chg w w5 No:=hF.ch hCw4 hXw5
    refine ⟨⟨hCw5,hb.no hCw5⟩,?_⟩
    have hF:=hF.grow hCw4.size hOw5 hrw5
    obtain ⟨Aw5,cw5,hvw5,_⟩:=hF.1.rd.form
    subst hvw5
    refine zs_appendO rfl (by rfl) (by decide) (want_L rfl) (by decide) rfl rfl hF.1 ((RdS.cut hK.rd (k:=a) hal).no hCw5) (by omega) (by omega) (fun vw6 w6 hOw6 hXw6 hrw6=> ?_)
    have hCw6:Chg w w6 No:=hF.ch hCw5 hXw6
    refine ⟨⟨hCw6,hb.no hCw6⟩,?_⟩
    have hF:=hF.grow hCw5.size hOw6 hrw6
    obtain ⟨Aw6,cw6,hvw6,_⟩:=hF.1.rd.form
    subst hvw6
    refine zz ?_
    have hO:Own w6 3 1 (.slice Aw6 (0+a+1+((N.getD j n0).kids.length - a)) cw6) (insK (N.getD j n0).kids a i).length (intC (insK (N.getD j n0).kids a i)):=by
     rw [insK_len _ _ _ hal,intC_ins]
     have e:=hF.1
     simp only [List.nil_append,Nat.mul_one,List.append_assoc,List.singleton_append] at e
     rw [hlen] at e ⊢
     exact e
    obtain ⟨bo6,co6,cells6,hv6,_,hB6,hfit6,hst6⟩:=(h.no hCw6).row j hj
    cases hv6
    refine zs_storeL (o:=j) rfl (want_L rfl) (ev_ptr rfl (by omega)) rfl rfl hB6 hfit6 (by simp [Value.cells,Value.oneCell']) (fun w7 hU7=> ?_)
    obtain ⟨g1,g2,g3,g4⟩:=hst6 _ _ hO (fun k hk he=>by have:=hF.2 k hk;have:=h.ups.lt he;omega) w7 hU7
    obtain ⟨bu,cu,cellsu,hvu,_,hBu,hfitu,hstu⟩:=g1.upset i (by rw [List.length_set];exact hi)
    rw [List.length_set] at hvu
    have hb7:=g1.blk
    cases hvu
    refine zz ?_
    refine z_store (o:=i) (want_L rfl) (ev_ptr rfl (by omega)) rfl rfl hBu hfitu (by simp [Value.cells,Value.oneCell']) (fun w8 hU8=> ?_)
    obtain ⟨k1,k2,k3⟩:=hstu _ w8 hU8
    refine zz ?_
    refine zk_ret1 (.inr rfl) rfl rfl ⟨true,_,_,rfl,k1,⟨?_,?_,fun b cells hb'=>k3 b cells (g4 b cells (hb'.no hCw6))⟩,fun _=>⟨rfl,?_⟩,fun hh=>absurd hok hh⟩
    ·exact ((hCw6.mono (fun _ _ h=>h.elim)).trans g2 (fun _ _ h=>h)).trans k2 (fun k hk hf=>(g3 k hf).elim id (fun h'=>by have:=hF.2 k h';omega))
    ·intro k hk
     exact (g3 k hk).imp id (fun h'=>hF.2 k h')
    ·have e:(placeN (ndOf N (j:Nat)).kids ahead).getD 0=a:=by show (placeN (N.getD j n0).kids ahead).getD 0=a;rw [hpl];rfl
     show _=layN N i j _
     rw [e]
     unfold layN
     rw [getD_set _ _ _ _ _ hj,if_neg hij]
  ·refine zo_bs1 rfl (want_L rfl) (by decide) rfl (by rfl) (by rfl) (by decide) (by decide) (fun w2 cb hMw2=> ?_)
   have hCw2:Chg w w2 No:=hCw1.no hMw2.chg
   refine ⟨⟨hCw2,hb.no hCw2⟩,?_⟩
   have hr1:RdS w2 3 1 (.slice (some ⟨cb,0,none⟩) 1 1) 1 [.int .i64 i]:=RdS.new hMw2 rfl (by simp [Value.oneCell'])
   refine zs_bs0 rfl (want_L rfl) (by decide) (fun w3 ca hMw3=> ?_)
   have hCw3:Chg w w3 No:=hCw2.no hMw3.chg
   refine ⟨⟨hCw3,hb.no hCw3⟩,?_⟩
   have hF:FO w.heap.size w3 (.slice (some ⟨ca,0,none⟩) 0 0) 0 []:=⟨Own.empty hMw3,fun k hk=>by simp only [Value.ownBlock,Option.some.injEq] at hk;have:=hMw3.at_;have:=hCw2.size;omega⟩
   have hr1:=hr1.no hMw3.chg
   refine zs_appendO rfl (by rfl) (by decide) (want_L rfl) (by decide) rfl rfl hF.1 ((hK.take a hal).rd.no hCw3) (by omega) (by omega) (fun vw4 w4 hOw4 hXw4 hrw4=> ?_)
   have hCw4:Chg w w4 No:=hF.ch hCw3 hXw4
   refine ⟨⟨hCw4,hb.no hCw4⟩,?_⟩
   have hr1:=hF.rd hXw4 hr1 (fun k hk he=>by simp only [Value.ownBlock,Option.some.injEq] at hk he;have:=hMw3.at_;have:=hMw2.at_;have:=hMw2.size;omega)
   have hF:=hF.grow hCw3.size hOw4 hrw4
   obtain ⟨Aw4,cw4,hvw4,_⟩:=hF.1.rd.form
   subst hvw4
   refine zs_appendO rfl (by rfl) (by decide) (want_L rfl) (by decide) rfl rfl hF.1 hr1 (by omega) (by omega) (fun vw5 w5 hOw5 hXw5 hrw5=> ?_)
   have hCw5:Chg w w5 No:=hF.ch hCw4 hXw5
   refine ⟨⟨hCw5,hb.no hCw5⟩,?_⟩
   have hF:=hF.grow hCw4.size hOw5 hrw5
   obtain ⟨Aw5,cw5,hvw5,_⟩:=hF.1.rd.form
   subst hvw5
   refine zs_appendO rfl (by rfl) (by decide) (want_L rfl) (by decide) rfl rfl hF.1 ((RdS.cut hK.rd (k:=a) hal).no hCw5) (by omega) (by omega) (fun vw6 w6 hOw6 hXw6 hrw6=> ?_)
   have hCw6:Chg w w6 No:=hF.ch hCw5 hXw6
   refine ⟨⟨hCw6,hb.no hCw6⟩,?_⟩
   have hF:=hF.grow hCw5.size hOw6 hrw6
   obtain ⟨Aw6,cw6,hvw6,_⟩:=hF.1.rd.form
   subst hvw6
   refine zz ?_
   have hO:Own w6 3 1 (.slice Aw6 (0+a+1+((N.getD j n0).kids.length - a)) cw6) (insK (N.getD j n0).kids a i).length (intC (insK (N.getD j n0).kids a i)):=by
    rw [insK_len _ _ _ hal,intC_ins]
    have e:=hF.1
    simp only [List.nil_append,Nat.mul_one,List.append_assoc,List.singleton_append] at e
    rw [hlen] at e ⊢
    exact e
   obtain ⟨bo6,co6,cells6,hv6,_,hB6,hfit6,hst6⟩:=(h.no hCw6).row j hj
   cases hv6
   refine zs_storeL (o:=j) rfl (want_L rfl) (ev_ptr rfl (by omega)) rfl rfl hB6 hfit6 (by simp [Value.cells,Value.oneCell']) (fun w7 hU7=> ?_)
   obtain ⟨g1,g2,g3,g4⟩:=hst6 _ _ hO (fun k hk he=>by have:=hF.2 k hk;have:=h.ups.lt he;omega) w7 hU7
   obtain ⟨bu,cu,cellsu,hvu,_,hBu,hfitu,hstu⟩:=g1.upset i (by rw [List.length_set];exact hi)
   rw [List.length_set] at hvu
   have hb7:=g1.blk
   cases hvu
   refine zz ?_
   refine z_store (o:=i) (want_L rfl) (ev_ptr rfl (by omega)) rfl rfl hBu hfitu (by simp [Value.cells,Value.oneCell']) (fun w8 hU8=> ?_)
   obtain ⟨k1,k2,k3⟩:=hstu _ w8 hU8
   refine zz ?_
   refine zk_ret1 (.inr rfl) rfl rfl ⟨true,_,_,rfl,k1,⟨?_,?_,fun b cells hb'=>k3 b cells (g4 b cells (hb'.no hCw6))⟩,fun _=>⟨rfl,?_⟩,fun hh=>absurd hok hh⟩
   ·exact ((hCw6.mono (fun _ _ h=>h.elim)).trans g2 (fun _ _ h=>h)).trans k2 (fun k hk hf=>(g3 k hf).elim id (fun h'=>by have:=hF.2 k h';omega))
   ·intro k hk
    exact (g3 k hk).imp id (fun h'=>hF.2 k h')
   ·have e:(placeN (ndOf N (j:Nat)).kids ahead).getD 0=a:=by show (placeN (N.getD j n0).kids ahead).getD 0=a;rw [hpl];rfl
    show _=layN N i j _
    rw [e]
    unfold layN
    rw [getD_set _ _ _ _ _ hj,if_neg hij]
  -- END rput.py
end
theorem rNew_calls {w:World}:Calls Tryz.prog 42 [].toArray w fun e w'=> ∃p vn vu vr ms ks,e= .returned (.pointer (some ⟨p,0,none⟩))∧IsR w' p vn vu vr ms ks rootN∧Chg w w' No∧ ∀k,fR p vn vu vr ks k→w.heap.size≤k:=by
 refine zCz 7 Tryz.func42 ?_
 refine zz ?_
 refine z_buildE #[.int .i64 1,.int .i64 1,.string ⟨#[]⟩,.slice none 0 0,.string ⟨#[]⟩,.int .i64 0,.slice none 0 0] (want_L rfl) (by decide) rfl (by kernel_rfl) ?_
 refine zB1 rfl (fun w1 b1 hN1=> ?_)
 refine zB1 rfl (fun w2 b2 hN2=> ?_)
 refine zB1 rfl (fun w3 b3 hN3=> ?_)
 refine z_buildE #[.slice (some ⟨b1,0,none⟩) 1 1,.slice (some ⟨b2,0,none⟩) 1 1,.slice (some ⟨b3,0,none⟩) 1 1] (want_L rfl) (by decide) rfl (by kernel_rfl) ?_
 refine zBx rfl (fun w4 b4 hN4=> ?_)
 refine zz ?_
 have h1:=hN1.at_
 have h2:=hN2.at_
 have h3:=hN3.at_
 have h4:=hN4.at_
 have hb1:Blk w1 b1 80 ([.int .i64 1,.int .i64 1,.string ⟨#[]⟩,.slice none 0 0,.string ⟨#[]⟩,.int .i64 0,.slice none 0 0]++ []):=hN1.blk
 have hb2:Blk w2 b2 3 ([.int .i64 (-1)]++ []):=hN2.blk
 have hb3:Blk w3 b3 22 ([.slice none 0 0]++ []):=hN3.blk
 have c24:=hN3.chg.no hN4.chg
 have c14:=(hN2.chg).no c24
 have s2:=hN1.chg.size
 have s3:=hN2.chg.size
 have s4:=hN3.chg.size
 refine zk_ret1 (.inr rfl) rfl rfl ⟨b4,_,_,_,[⟨1,1,⟨#[]⟩,.slice none 0 0,⟨#[]⟩,0,.slice none 0 0⟩],[.slice none 0 0],rfl,⟨hN4.blk,?_,?_,?_,rfl,rfl,fun i hi=> ?_,fun i hi=> ?_⟩,(hN1.chg.no c14),?_⟩
 ·exact Own.mk' (junk:= []) rfl (Nat.le_refl _) (by decide) (hb1.no c14) rfl (by simp [encN,MN.cells,Value.oneCell'])
 ·exact Own.mk' (junk:= []) rfl (Nat.le_refl _) (by decide) (hb2.no c24) rfl (by simp [upC,Value.oneCell',rootN])
 ·exact Own.mk' (junk:= []) rfl (Nat.le_refl _) (by decide) (hb3.no hN4.chg) rfl (by simp [Value.oneCell'])
 ·have:i=0:=by simp [rootN] at hi;omega
  subst this
  exact ⟨⟨rfl,rfl,rfl,AttrS.nil _,rfl,rfl⟩,rfl⟩
 ·have:i=0:=by simp [rootN] at hi;omega
  subst this
  exact ⟨Own.nil,fun k hk=>by cases hk⟩
 ·rintro k (hk|hk|hk|hk|⟨i,hi,hk⟩)
  ·omega
  ·simp only [Value.ownBlock,Option.some.injEq] at hk;omega
  ·simp only [Value.ownBlock,Option.some.injEq] at hk;omega
  ·simp only [Value.ownBlock,Option.some.injEq] at hk;omega
  ·have:i=0:=by simp at hi;omega
   subst this;cases hk
end Go.Proofs.YtbcmiijollpgeaaGreat.D
namespace Go.Z
open Go
section
variable {P : Program} {n : Nat} {e : Env} {w : World} {Q : Exit → Act → World → Prop} {ops : Array Oper} {rest : List Oper}
theorem z_field {d:Tmp} {ty:TypeId} {pos:String} {aft:Array Edge} {g:Option (Nat×Bool)} {s f:Nat} {x:Operand} {v u:Value} (hw:Want ops e g) (hdn:d<n) (hx:ev e x=some v) (hf:(Instr.field s v f).run P w= .ok u w) (h:ZL P n ops rest ((d,u)::e) w Q):
  ZL P n ops (⟨some d,.field s x f,ty,pos,aft,g⟩::rest) e w Q:=zl_run hw rfl hdn (fun a ha=>by simp [execOp,ha.ev hx,hf]) h
end
end Go.Z
namespace Go.Proofs.YtbcmiijollpgeaaGreat.D
open Go Go.Z Go.Proofs
structure TP where
 pd:Nat
 pm:Nat
 vn:Value
 vu:Value
 vr:Value
 ms:List MN
 ks:List Value
 vrow:Value
structure IsT (w:World) (t:Nat) (r:TP) (N:List ND) (L:List Nat):Prop where
 blk:Blk w t 74 [.pointer (some ⟨r.pd,0,none⟩),.pointer (some ⟨r.pm,0,none⟩),r.vrow,.bool false]
 doc:IsR w r.pd r.vn r.vu r.vr r.ms r.ks N
 row:Own w 3 1 r.vrow L.length (intC L)
 sep: ∀k,r.vrow.ownBlock=some k→ ¬fR r.pd r.vn r.vu r.vr r.ks k
def footT (t:Nat) (r:TP) (k:Nat):Prop:=k=t∨r.vrow.ownBlock=some k∨fR r.pd r.vn r.vu r.vr r.ks k
section
variable {w w' w1 w2 : World} {t : Nat} {r r' r1 : TP} {N N' : List ND} {L L' : List Nat} {S : Nat → Prop}
theorem IsR.noT' {p:Nat} {vn vu vr:Value} {ms:List MN} {ks:List Value} (h:IsR w p vn vu vr ms ks N) {b t:Nat} {cs:List Value} (hb:Blk w b t cs) (h1:t≠106) (h2:t≠80) (h3:t≠3) (h4:t≠22): ¬fR p vn vu vr ks b:=by
 rintro (hk|hk|hk|hk|⟨i,hi,hk⟩)
 ·exact hb.ne h.blk h1 hk
 ·exact h.own.ne hk hb (Ne.symm h2) rfl
 ·exact h.ups.ne hk hb (Ne.symm h3) rfl
 ·exact h.rws.ne hk hb (Ne.symm h4) rfl
 ·exact (h.kid i (by rw [←h.lk];exact hi)).1.ne hk hb (Ne.symm h3) rfl
theorem IsT.noT (h:IsT w t r N L) {b ty:Nat} {cs:List Value} (hb:Blk w b ty cs) (h1:ty≠106) (h2:ty≠80) (h3:ty≠3) (h4:ty≠22) (h5:ty≠74): ¬footT t r b:=by
 rintro (hk|hk|hk)
 ·exact hb.ne h.blk h5 hk
 ·exact h.row.ne hk hb (Ne.symm h3) rfl
 ·exact h.doc.noT' hb h1 h2 h3 h4 hk
theorem IsT.no (h:IsT w t r N L) (hc:Chg w w' No):IsT w' t r N L:=⟨h.blk.no hc,h.doc.no hc,h.row.no hc,h.sep⟩
theorem IsT.chg (h:IsT w t r N L) (hc:Chg w w' S) (hS: ∀k,footT t r k→ ¬S k) (h45: ∀b cells,Blk w b 45 cells→ ¬S b):IsT w' t r N L:=
 ⟨h.blk.chg hc (hS _ (.inl rfl)),h.doc.chg hc (fun k hk=>hS k (.inr (.inr hk))) h45,h.row.chg hc (fun k hk=>hS k (.inr (.inl hk))),h.sep⟩
structure WrT (w w':World) (t:Nat) (r r':TP):Prop where
 chg:Chg w w' (footT t r)
 ft: ∀k,footT t r' k→footT t r k∨w.heap.size≤k
theorem WrT.of_no (hc:Chg w w' No) (t:Nat) (r:TP):WrT w w' t r r:=⟨hc.mono (fun _ _ h=>h.elim),fun _ h=> .inl h⟩
theorem WrT.trans (h:WrT w w1 t r r1) (k:WrT w1 w2 t r1 r'):WrT w w2 t r r':=by
 refine ⟨h.chg.trans k.chg (fun i hi hf=> ?_),fun i hf=> ?_⟩
 ·rcases h.ft i hf with h1|h1
  ·exact h1
  ·omega
 ·rcases k.ft i hf with h1|h1
  ·exact h.ft i h1
  ·exact .inr (Nat.le_trans h.chg.size h1)
theorem IsT.docW (h:IsT w t r N L) {vn' vu' vr':Value} {ms':List MN} {ks':List Value} (hD:IsR w' r.pd vn' vu' vr' ms' ks' N') (hW:WrR w w' r.pd r.vn r.vu r.vr r.ks vn' vu' vr' ks'):
  IsT w' t {r with vn:=vn',vu:=vu',vr:=vr',ms:=ms',ks:=ks'} N' L∧WrT w w' t r {r with vn:=vn',vu:=vu',vr:=vr',ms:=ms',ks:=ks'}:=by
 refine ⟨⟨h.blk.chg hW.chg (h.doc.noT' h.blk (by decide) (by decide) (by decide) (by decide)),hD,h.row.chg hW.chg h.sep,fun k hk hf=> ?_⟩,⟨hW.chg.mono (fun k _ hk=> .inr (.inr hk)),?_⟩⟩
 ·rcases hW.ft k hf with h1|h1
  ·exact h.sep k hk h1
  ·have:=h.row.lt hk;omega
 ·rintro k (hk|hk|hk)
  ·exact .inl (.inl hk)
  ·exact .inl (.inr (.inl hk))
  ·exact (hW.ft k hk).imp (fun h=> .inr (.inr h)) id
theorem rsTop_calls (h:IsT w t r N L) (hL:0<L.length) (hl:L.length≤1000000):Calls Tryz.prog 46 [.pointer (some ⟨t,0,none⟩)].toArray w fun e w'=>e= .returned (.int .i64 ((L.getD (L.length - 1) 0:Nat):Int))∧Chg w w' No:=by
 have hb:=h.blk
 obtain ⟨b,o,c,hv,_,hcc⟩:=RdS.some h.row.rd hL
 have hcell:=hcc (L.length - 1) _ (intC_get L (L.length - 1) (by omega))
 rw [hv] at hb
 refine zCz 15 Tryz.func46 ?_
 refine zz ?_
 refine zc_draw [] (fun w'=>Chg w w' No∧Blk w' t 74 [.pointer (some ⟨r.pd,0,none⟩),.pointer (some ⟨r.pm,0,none⟩),.slice (some ⟨b,o,none⟩) L.length c,.bool false]) (.take 0 (.take 1 (.take 2 (.take 3 (.take 4 (.take 5 (.take 6 (.take 7 (.take 8 (.take 9 (.take 10 (.take 11 (.take 12 (.fin)))))))))))))) (by rfl) (by kernel_rfl) (by kernel_rfl) (fun w1 hC1 _=>⟨?_,?_⟩)
 ·exact ⟨hC1,hb.no hC1⟩
 refine zz ?_
 refine zRd rfl rfl (fun _ hS=>r_load1 rfl (cell_at (cell_no hS.1 hcell) (by omega))) ?_
 refine zz ?_
 exact zk_ret1 (.inr rfl) rfl rfl ⟨rfl,hC1⟩
theorem rsPlace_calls (h:IsT w t r N L) (hl:L.length≤1000000) (n:Int) (hn: ∀k,k<L.length→((L.getD k 0:Nat):Int)≠n):Calls Tryz.prog 115 [.pointer (some ⟨t,0,none⟩),.int .i64 n].toArray w fun e w'=>e= .returned (.int .i64 (-1))∧w'=w:=by
 have hb:=h.blk
 obtain ⟨A,c,hv,hc⟩:=h.row.rd.form
 rw [hv] at hb
 refine zCz 25 Tryz.func115 ?_
 refine zz ?_
 refine zc_loopW (ι:=Nat) (fun k u=> [(0,.pointer (some ⟨t,0,none⟩)),(1,.int .i64 n),(5,.int .i64 (k:Nat))]) (fun k u=>k≤L.length∧u=w) (fun k u=>L.length - k) 0 ⟨Nat.zero_le _,rfl⟩ ?_ ?_
 ·exact ⟨rfl,rfl,rfl,trivial⟩
 rintro k u ⟨hk,rfl⟩
 by_cases hlt:k<L.length
 ·obtain ⟨b,o,c',hv',_,hcc⟩:=RdS.some h.row.rd (by omega)
  rw [hv] at hv'
  cases hv'
  have hcell:=hcc k _ (intC_get L k hlt)
  have hne:=hn k hlt
  refine zz ?_
  refine zL1 rfl (cell_at hcell (by omega)) (zz ?_)
  refine zk_loopW (k+1) ⟨by omega,rfl⟩ (by omega) ⟨rfl,rfl,rfl,trivial⟩
 ·refine zz ?_
  exact zk_ret1 (.inr rfl) rfl rfl ⟨rfl,rfl⟩
theorem fld7 (w:World) (c0 c1 c2 c3 c4 c5 c6:Value):(Instr.field 80 (.agg #[c0,c1,c2,c3,c4,c5,c6]) 0).run Tryz.prog w= .ok c0 w:=by kernel_rfl
theorem rsFresh_calls (h:IsT w t r N L) (hl:L.length≤1000000) (n:Int) (hk:(nodeOf N n).kind=1) (hn: ∀k,k<L.length→((L.getD k 0:Nat):Int)≠n):Calls Tryz.prog 176 [.pointer (some ⟨t,0,none⟩),.int .i64 n].toArray w fun e w'=>e= .returned (.bool true)∧Chg w w' No:=by
 have hb:=h.blk
 refine zCz 19 Tryz.func176 ?_
 refine zz ?_
 refine zCl rfl (rNode_calls h.doc n) ?_
 rintro _ w1 ⟨va,rfl,_,hC1⟩
 refine ⟨_,rfl,?_⟩
 rw [hk]
 refine z_field (want_L rfl) (by decide) rfl (fld7 _ _ _ _ _ _ _ _) ?_
 refine zz ?_
 refine zCp rfl (rsPlace_calls (h.no hC1) hl n hn) ?_
 refine zz ?_
 exact zk_ret1 (.inr rfl) rfl rfl ⟨rfl,hC1⟩
end
section
variable {w w' w0 w1 w2 : World} {t : Nat} {r r' r1 : TP} {N N' : List ND} {L L' : List Nat} {S : Nat → Prop}
theorem IsT.rowW (h:IsT w t r N L) {v:Value} (hU:Upd w w' t 74 [.pointer (some ⟨r.pd,0,none⟩),.pointer (some ⟨r.pm,0,none⟩),v,.bool false]) (hO:Own w 3 1 v L'.length (intC L')) (hn: ∀k,v.ownBlock=some k→w0.heap.size≤k) (hC:Chg w0 w No) (h0:IsT w0 t r N L):
  IsT w' t {r with vrow:=v} N L'∧WrT w0 w' t r {r with vrow:=v}:=by
 have hR:OneT w 74 (fun k=>k=t):=fun k hk=>⟨_,hk▸h.blk⟩
 refine ⟨⟨hU.blk,h.doc.chg hU.chg (fun k hk he=>h.doc.noT' h.blk (by decide) (by decide) (by decide) (by decide) (he▸hk)) (fun b cells hb he=>absurd (hb.inj (he▸h.blk)).1 (by decide)),hO.typ hU.chg hR (by decide),fun k hk hf=> ?_⟩,⟨(hC.mono (fun _ _ h=>h.elim)).trans hU.chg (fun k _ hk=> .inl hk),?_⟩⟩
 ·have:=hn k hk
  have:=h0.doc.lt k hf
  omega
 ·rintro k (hk|hk|hk)
  ·exact .inl (.inl hk)
  ·exact .inr (hn k hk)
  ·exact .inl (.inr (.inr hk))
theorem rsPut_calls (h:IsT w t r N L) (hl:L.length≤1000000) (hL:0<L.length) (n:Nat) (hk:(nodeOf N (n:Nat)).kind=1) (hn: ∀k,k<L.length→L.getD k 0≠n):
  Calls Tryz.prog 148 [.pointer (some ⟨t,0,none⟩),.int .i64 L.length,.int .i64 n].toArray w fun e w'=>e= .returned (.bool true)∧ ∃v,IsT w' t {r with vrow:=v} N (L++ [n])∧WrT w w' t r {r with vrow:=v}:=by
 obtain ⟨Ar,cr,hv,hc⟩:=h.row.rd.form
 have hb0:=h.blk
 have hK:=h.row
 rw [hv] at hb0 hK
 refine zCz 45 Tryz.func148 ?_
 refine zz ?_
 refine zCr rfl (rsFresh_calls h hl n hk (fun k hk he=>hn k hk (by omega))) fun wa hCa=> ?_
 have hba:=hb0.no hCa
 refine zz ?_
 refine zc_draw [21] (fun w'=>Chg w w' No∧Blk w' t 74 [.pointer (some ⟨r.pd,0,none⟩),.pointer (some ⟨r.pm,0,none⟩),.slice Ar L.length cr,.bool false]) (.take 0 (.take 2 (.take 3 (.take 4 (.take 5 (.take 6 (.take 7 (.take 9 (.take 12 (.take 13 (.take 14 (.take 15 (.take 16 (.take 17 (.all2 1 (.all2 8 (.all1 10 (.all1 11 (.all1 18 (.plain 19 (.take 20 (.last 21)))))) 10 (.all1 8 (.all1 11 (.all1 18 (.plain 19 (.take 20 (.last 21))))))) 10 (.all1 1 (.all1 8 (.all1 11 (.all1 18 (.plain 19 (.take 20 (.last 21)))))))))))))))))))))) (by rfl) (by kernel_rfl) (by kernel_rfl) (fun w1 hD1 _=>⟨?_,?_⟩)
 ·exact ⟨hCa.no hD1,hba.no hD1⟩
 have hCw1:Chg w w1 No:=hCa.no hD1
 have hb:=hb0
 refine zz ?_
 refine zRd rfl rfl (fun _ hS=>r_cutTo (k:=L.length) hK.flat rfl rfl (by omega)) ?_
 refine zz ?_
 refine zRd rfl rfl (fun _ hS=>r_cutFrom (k:=L.length) rfl rfl (by omega) (by omega)) ?_
 refine zs_two ?_ ?_
 ·refine zo_bs0 rfl (want_L rfl) (by decide) (fun w2 ca hMw2=> ?_)
  have hCw2:Chg w w2 No:=hCw1.no hMw2.chg
  refine ⟨⟨hCw2,hb.no hCw2⟩,?_⟩
  have hF:FO w.heap.size w2 (.slice (some ⟨ca,0,none⟩) 0 0) 0 []:=⟨Own.empty hMw2,fun k hk=>by simp only [Value.ownBlock,Option.some.injEq] at hk;have:=hMw2.at_;have:=hCw1.size;omega⟩
  refine zs_two ?_ ?_
  ·refine zo_appendO rfl (by rfl) (by decide) (want_L rfl) (by decide) rfl rfl hF.1 ((hK.take L.length (Nat.le_refl _)).rd.no hCw2) (by omega) (by omega) (fun vw3 w3 hOw3 hXw3 hrw3=> ?_)
   have hCw3:Chg w w3 No:=hF.ch hCw2 hXw3
   refine ⟨⟨hCw3,hb.no hCw3⟩,?_⟩
   have hF:=hF.grow hCw2.size hOw3 hrw3
   obtain ⟨Aw3,cw3,hvw3,_⟩:=hF.1.rd.form
   subst hvw3
   refine zs_bs1 rfl (want_L rfl) (by decide) rfl (by rfl) (by rfl) (by decide) (by decide) (fun w4 cb hMw4=> ?_)
   have hCw4:Chg w w4 No:=hCw3.no hMw4.chg
   refine ⟨⟨hCw4,hb.no hCw4⟩,?_⟩
   have hr1:RdS w4 3 1 (.slice (some ⟨cb,0,none⟩) 1 1) 1 [.int .i64 ((n:Nat):Int)]:=RdS.new hMw4 rfl (by simp [Value.oneCell'])
   have hF:=hF.no hMw4.chg
   refine zs_appendO rfl (by rfl) (by decide) (want_L rfl) (by decide) rfl rfl hF.1 hr1 (by omega) (by omega) (fun vw5 w5 hOw5 hXw5 hrw5=> ?_)
   have hCw5:Chg w w5 No:=hF.ch hCw4 hXw5
   refine ⟨⟨hCw5,hb.no hCw5⟩,?_⟩
   have hF:=hF.grow hCw4.size hOw5 hrw5
   obtain ⟨Aw5,cw5,hvw5,_⟩:=hF.1.rd.form
   subst hvw5
   refine zs_appendO rfl (by rfl) (by decide) (want_L rfl) (by decide) rfl rfl hF.1 ((RdS.cut hK.rd (k:=L.length) (Nat.le_refl _)).no hCw5) (by omega) (by omega) (fun vw6 w6 hOw6 hXw6 hrw6=> ?_)
   have hCw6:Chg w w6 No:=hF.ch hCw5 hXw6
   refine ⟨⟨hCw6,hb.no hCw6⟩,?_⟩
   have hF:=hF.grow hCw5.size hOw6 hrw6
   obtain ⟨Aw6,cw6,hvw6,_⟩:=hF.1.rd.form
   subst hvw6
   refine zz ?_
   have hO:Own w6 3 1 (.slice Aw6 (0+L.length+1+(L.length - L.length)) cw6) (L++ [n]).length (intC (L++ [n])):=by
    have e:=hF.1
    have hil:(intC L).length=L.length*1:=intC_len L
    rw [List.nil_append,List.take_of_length_le (by omega),List.drop_of_length_le (by omega),List.append_nil] at e
    rw [show (L++ [n]).length=0+L.length+1+(L.length - L.length) by rw [List.length_append,List.length_singleton];omega,intC_app]
    exact e
   have hb6:=hb.no hCw6
   refine zs_storeL rfl (want_L rfl) rfl rfl rfl (by assumption) (by first|exact Nat.le_refl _|simp [Value.cells]) (by simp [Value.cells,Value.oneCell']) (fun w7 hU7=> ?_)
   refine zz ?_
   exact zk_ret1 (.inr rfl) rfl rfl ⟨rfl,_,(h.no hCw6).rowW hU7 hO hF.2 hCw6 h⟩
  ·refine zo_bs1 rfl (want_L rfl) (by decide) rfl (by rfl) (by rfl) (by decide) (by decide) (fun w3 cb hMw3=> ?_)
   have hCw3:Chg w w3 No:=hCw2.no hMw3.chg
   refine ⟨⟨hCw3,hb.no hCw3⟩,?_⟩
   have hr1:RdS w3 3 1 (.slice (some ⟨cb,0,none⟩) 1 1) 1 [.int .i64 ((n:Nat):Int)]:=RdS.new hMw3 rfl (by simp [Value.oneCell'])
   have hF:=hF.no hMw3.chg
   refine zs_appendO rfl (by rfl) (by decide) (want_L rfl) (by decide) rfl rfl hF.1 ((hK.take L.length (Nat.le_refl _)).rd.no hCw3) (by omega) (by omega) (fun vw4 w4 hOw4 hXw4 hrw4=> ?_)
   have hCw4:Chg w w4 No:=hF.ch hCw3 hXw4
   refine ⟨⟨hCw4,hb.no hCw4⟩,?_⟩
   have hr1:=hF.rd hXw4 hr1 (fun k hk he=>by simp only [Value.ownBlock,Option.some.injEq] at hk he;have:=hMw3.at_;have:=hMw2.at_;have:=hMw2.size;omega)
   have hF:=hF.grow hCw3.size hOw4 hrw4
   obtain ⟨Aw4,cw4,hvw4,_⟩:=hF.1.rd.form
   subst hvw4
   refine zs_appendO rfl (by rfl) (by decide) (want_L rfl) (by decide) rfl rfl hF.1 hr1 (by omega) (by omega) (fun vw5 w5 hOw5 hXw5 hrw5=> ?_)
   have hCw5:Chg w w5 No:=hF.ch hCw4 hXw5
   refine ⟨⟨hCw5,hb.no hCw5⟩,?_⟩
   have hF:=hF.grow hCw4.size hOw5 hrw5
   obtain ⟨Aw5,cw5,hvw5,_⟩:=hF.1.rd.form
   subst hvw5
   refine zs_appendO rfl (by rfl) (by decide) (want_L rfl) (by decide) rfl rfl hF.1 ((RdS.cut hK.rd (k:=L.length) (Nat.le_refl _)).no hCw5) (by omega) (by omega) (fun vw6 w6 hOw6 hXw6 hrw6=> ?_)
   have hCw6:Chg w w6 No:=hF.ch hCw5 hXw6
   refine ⟨⟨hCw6,hb.no hCw6⟩,?_⟩
   have hF:=hF.grow hCw5.size hOw6 hrw6
   obtain ⟨Aw6,cw6,hvw6,_⟩:=hF.1.rd.form
   subst hvw6
   refine zz ?_
   have hO:Own w6 3 1 (.slice Aw6 (0+L.length+1+(L.length - L.length)) cw6) (L++ [n]).length (intC (L++ [n])):=by
    have e:=hF.1
    have hil:(intC L).length=L.length*1:=intC_len L
    rw [List.nil_append,List.take_of_length_le (by omega),List.drop_of_length_le (by omega),List.append_nil] at e
    rw [show (L++ [n]).length=0+L.length+1+(L.length - L.length) by rw [List.length_append,List.length_singleton];omega,intC_app]
    exact e
   have hb6:=hb.no hCw6
   refine zs_storeL rfl (want_L rfl) rfl rfl rfl (by assumption) (by first|exact Nat.le_refl _|simp [Value.cells]) (by simp [Value.cells,Value.oneCell']) (fun w7 hU7=> ?_)
   refine zz ?_
   exact zk_ret1 (.inr rfl) rfl rfl ⟨rfl,_,(h.no hCw6).rowW hU7 hO hF.2 hCw6 h⟩
 ·refine zo_bs1 rfl (want_L rfl) (by decide) rfl (by rfl) (by rfl) (by decide) (by decide) (fun w2 cb hMw2=> ?_)
  have hCw2:Chg w w2 No:=hCw1.no hMw2.chg
  refine ⟨⟨hCw2,hb.no hCw2⟩,?_⟩
  have hr1:RdS w2 3 1 (.slice (some ⟨cb,0,none⟩) 1 1) 1 [.int .i64 ((n:Nat):Int)]:=RdS.new hMw2 rfl (by simp [Value.oneCell'])
  refine zs_bs0 rfl (want_L rfl) (by decide) (fun w3 ca hMw3=> ?_)
  have hCw3:Chg w w3 No:=hCw2.no hMw3.chg
  refine ⟨⟨hCw3,hb.no hCw3⟩,?_⟩
  have hF:FO w.heap.size w3 (.slice (some ⟨ca,0,none⟩) 0 0) 0 []:=⟨Own.empty hMw3,fun k hk=>by simp only [Value.ownBlock,Option.some.injEq] at hk;have:=hMw3.at_;have:=hCw2.size;omega⟩
  have hr1:=hr1.no hMw3.chg
  refine zs_appendO rfl (by rfl) (by decide) (want_L rfl) (by decide) rfl rfl hF.1 ((hK.take L.length (Nat.le_refl _)).rd.no hCw3) (by omega) (by omega) (fun vw4 w4 hOw4 hXw4 hrw4=> ?_)
  have hCw4:Chg w w4 No:=hF.ch hCw3 hXw4
  refine ⟨⟨hCw4,hb.no hCw4⟩,?_⟩
  have hr1:=hF.rd hXw4 hr1 (fun k hk he=>by simp only [Value.ownBlock,Option.some.injEq] at hk he;have:=hMw3.at_;have:=hMw2.at_;have:=hMw2.size;omega)
  have hF:=hF.grow hCw3.size hOw4 hrw4
  obtain ⟨Aw4,cw4,hvw4,_⟩:=hF.1.rd.form
  subst hvw4
  refine zs_appendO rfl (by rfl) (by decide) (want_L rfl) (by decide) rfl rfl hF.1 hr1 (by omega) (by omega) (fun vw5 w5 hOw5 hXw5 hrw5=> ?_)
  have hCw5:Chg w w5 No:=hF.ch hCw4 hXw5
  refine ⟨⟨hCw5,hb.no hCw5⟩,?_⟩
  have hF:=hF.grow hCw4.size hOw5 hrw5
  obtain ⟨Aw5,cw5,hvw5,_⟩:=hF.1.rd.form
  subst hvw5
  refine zs_appendO rfl (by rfl) (by decide) (want_L rfl) (by decide) rfl rfl hF.1 ((RdS.cut hK.rd (k:=L.length) (Nat.le_refl _)).no hCw5) (by omega) (by omega) (fun vw6 w6 hOw6 hXw6 hrw6=> ?_)
  have hCw6:Chg w w6 No:=hF.ch hCw5 hXw6
  refine ⟨⟨hCw6,hb.no hCw6⟩,?_⟩
  have hF:=hF.grow hCw5.size hOw6 hrw6
  obtain ⟨Aw6,cw6,hvw6,_⟩:=hF.1.rd.form
  subst hvw6
  refine zz ?_
  have hO:Own w6 3 1 (.slice Aw6 (0+L.length+1+(L.length - L.length)) cw6) (L++ [n]).length (intC (L++ [n])):=by
   have e:=hF.1
   have hil:(intC L).length=L.length*1:=intC_len L
   rw [List.nil_append,List.take_of_length_le (by omega),List.drop_of_length_le (by omega),List.append_nil] at e
   rw [show (L++ [n]).length=0+L.length+1+(L.length - L.length) by rw [List.length_append,List.length_singleton];omega,intC_app]
   exact e
  have hb6:=hb.no hCw6
  refine zs_storeL rfl (want_L rfl) rfl rfl rfl (by assumption) (by first|exact Nat.le_refl _|simp [Value.cells]) (by simp [Value.cells,Value.oneCell']) (fun w7 hU7=> ?_)
  refine zz ?_
  exact zk_ret1 (.inr rfl) rfl rfl ⟨rfl,_,(h.no hCw6).rowW hU7 hO hF.2 hCw6 h⟩
end
section
variable {w w' w0 w1 w2 : World} {t : Nat} {r r' r1 : TP} {N N' : List ND} {L L' : List Nat} {S : Nat → Prop}
theorem rsPush_calls (h:IsT w t r N L) (hl:L.length≤1000000) (hL:0<L.length) (n:Nat) (hk:(nodeOf N (n:Nat)).kind=1) (hn: ∀k,k<L.length→L.getD k 0≠n):
  Calls Tryz.prog 121 [.pointer (some ⟨t,0,none⟩),.int .i64 n].toArray w fun e w'=>e= .returned (.bool true)∧ ∃v,IsT w' t {r with vrow:=v} N (L++ [n])∧WrT w w' t r {r with vrow:=v}:=by
 obtain ⟨Ar,cr,hv,hc⟩:=h.row.rd.form
 have hb:=h.blk
 rw [hv] at hb
 refine zCz 13 Tryz.func121 ?_
 refine zz ?_
 refine zCr rfl (rsPut_calls h hl hL n hk hn) fun w1 h1=> ?_
 refine zz ?_
 exact zk_ret1 (.inr rfl) rfl rfl ⟨rfl,h1⟩
theorem rsSpot_calls (h:IsT w t r N L) (n:Int):Calls Tryz.prog 79 [.pointer (some ⟨t,0,none⟩),.int .i64 n].toArray w fun e w'=>e= .returned (.tuple #[.int .i64 n,.int .i64 (-1)])∧w'=w:=by
 have hb:=h.blk
 refine zCz 86 Tryz.func79 ?_
 refine zz ?_
 exact zk_ret2 (.inr rfl) rfl rfl rfl ⟨rfl,rfl⟩
theorem rsLay_calls (h:IsT w t r N L) (hW:WF N) (hl:N.length≤10000000) (n up:Int):Calls Tryz.prog 50 [.pointer (some ⟨t,0,none⟩),.int .i64 n,.int .i64 up].toArray w fun e w'=>e= .returned (.tuple #[])∧ ∃r' p N',(r'.pm=r.pm∧r'.vrow=r.vrow)∧PutR N n up (-1) p N'∧IsT w' t r' N' L∧WrT w w' t r r':=by
 have hb:=h.blk
 refine zCz 22 Tryz.func50 ?_
 refine zz ?_
 refine zCp rfl (rsSpot_calls h up) ?_
 refine zz ?_
 refine zCl rfl (rPut_calls h.doc hW hl n up (-1)) ?_
 rintro _ w1 ⟨p,ks',N',rfl,hI,hWr,hR⟩
 refine ⟨_,rfl,?_⟩
 obtain ⟨g1,g2⟩:=h.docW hI hWr
 refine zN ?_
 exact zk_ret0 (.inl rfl) rfl ⟨rfl,{r with ks:=ks'},p,N',⟨rfl,rfl⟩,hR,g1,g2⟩
theorem rmNew_calls:Calls Tryz.prog 43 [].toArray w fun x w'=> ∃b,x= .returned (.pointer (some ⟨b,0,none⟩))∧New w w' b 121 [.slice none 0 0]:=by
 refine zCz 3 Tryz.func43 ?_
 refine zz ?_
 refine z_buildE #[.slice none 0 0] (want_L rfl) (by decide) rfl (by kernel_rfl) ?_
 refine zBx rfl (fun w1 b1 hN1=> ?_)
 refine zz ?_
 exact zk_ret1 (.inr rfl) rfl rfl ⟨b1,rfl,hN1⟩
end
theorem rTree_calls {N:List ND} (hW:WF N) (hl:N.length≤10000000): ∀(f:Nat) {w:World} {p:Nat} {vn vu vr:Value} {ms:List MN} {ks:List Value} (h:IsR w p vn vu vr ms ks N) (n:Nat) (hn:n<N.length) (t:NT),TF N (N.getD n n0).kids t→t.size≤f→
  Calls Tryz.prog 26 [.pointer (some ⟨p,0,none⟩),.int .i64 n].toArray w fun e w'=> ∃vo,e= .returned vo∧TreeOk w' (fun b=>w.heap.size≤b) (fun _=>True) vo t∧Chg w w' No:=by
 intro f
 induction f with
 |zero=>
  intro w p vn vu vr ms ks h n hn t ht hf
  have hk0:(N.getD n n0).kids.length=0:=by rw [←ht.len];have:=t.len_size;omega
  have ht0:t= .nil:=by cases t with
   |nil=>rfl
   |cons x k r=>simp [NT.size] at hf
  subst ht0
  obtain ⟨br,or',cr,Ak,ck,hvr,hcr,hks,hck⟩:=h.kd n hn
  have hb:=h.blk
  rw [hvr] at hb
  refine zCz 59 Tryz.func26 ?_
  refine zz ?_
  refine zCp rfl (rIs_calls h n) ?_
  rw [decide_eq_true (show isN N n from ⟨by omega,by omega⟩)]
  refine zz ?_
  refine zc_loopW (ι:=Nat) (fun k u=> [(0,.pointer (some ⟨p,0,none⟩)),(1,.int .i64 n),(5,.slice none 0 0),(6,.int .i64 k)]) (fun k u=>k=0∧u=w) (fun k u=>k) 0 ⟨rfl,rfl⟩ ?_ ?_
  ·exact ⟨rfl,rfl,rfl,rfl,trivial⟩
  rintro k u ⟨rfl,hu⟩
  obtain rfl:=hu.symm
  refine zz ?_
  refine zL1 rfl (cell_at hcr (by omega)) (zz ?_)
  exact zk_ret1 (.inr rfl) rfl rfl ⟨_,rfl,TreeOk.nil,Chg.refl _ _⟩
 |succ f ih=>
  intro w p vn vu vr ms ks h n hn t ht hf
  have htl:=ht.len
  have hkl:=hW.kids_len hn
  obtain ⟨br,or',cr,Ak,ck,hvr,hcr,hks,hck⟩:=h.kd n hn
  have hK:=(h.kid n hn).1.rd
  rw [hks] at hK
  have hb:=h.blk
  rw [hvr] at hb
  refine zCz 59 Tryz.func26 ?_
  refine zz ?_
  refine zCp rfl (rIs_calls h n) ?_
  rw [decide_eq_true (show isN N n from ⟨by omega,by omega⟩)]
  refine zz ?_
  refine zc_loopW (ι:=Nat×Value×NT) (fun q u=> [(0,.pointer (some ⟨p,0,none⟩)),(1,.int .i64 n),(5,q.2.1),(6,.int .i64 q.1)])
   (fun q u=>q.1≤t.len∧Out w.heap.size (fun _=>True) u q.2.1 q.2.2∧q.2.2.len=q.1∧q.2.2.app (t.dropN q.1)=t∧Chg w u No) (fun q u=>t.len - q.1) (0,.slice none 0 0,.nil)
   ⟨Nat.zero_le _,Out.nil,rfl,rfl,Chg.refl _ _⟩ ?_ ?_
  ·exact ⟨rfl,rfl,rfl,rfl,trivial⟩
  rintro ⟨i,vo,T⟩ u ⟨hi,hOut,hTl,hd,hC⟩
  dsimp only at hi hOut hTl hd ⊢
  have hbu:=hb.no hC
  have hcru:=cell_no hC hcr
  by_cases hlt:i<t.len
  ·obtain ⟨bk,ok,ck',hvk,_,hck2⟩:=RdS.some hK (by omega)
   cases hvk
   have hcell:=cell_no hC (hck2 i _ (intC_get _ i (by omega)))
   have hik:i<(N.getD n n0).kids.length:=by omega
   have hdr:=ht.drop i
   have hdc:(N.getD n n0).kids.drop i=(N.getD n n0).kids.getD i 0::(N.getD n n0).kids.drop (i+1):=drop_cons 0 _ _ hik
   rw [hdc] at hdr
   have hkn:(N.getD n n0).kids.getD i 0<N.length:=((hW.kid n _ hn).1 (getD_mem hik)).1
   obtain ⟨nk,hnke⟩: ∃nk,nk=(N.getD n n0).kids.getD i 0:=⟨_,rfl⟩
   rw [←hnke] at hcell hdr hkn
   have hsz:=t.drop_size i
   have e1: ∃tk tr,t.dropN i= .cons (hdOf (N.getD nk n0)) tk tr∧TF N (N.getD nk n0).kids tk:=by
    generalize t.dropN i=s at hdr
    cases hdr with
    |cons _ _ tk tr h1 h2=>exact ⟨tk,tr,rfl,h1⟩
   obtain ⟨tk,tr,e1,htk⟩:=e1
   rw [e1] at hsz
   simp only [NT.size] at hsz
   obtain ⟨bn,on,cn,An,hvn,hnd,hAn⟩:=(h.no hC).nd nk hkn
   obtain ⟨A4,c4,rfl,_⟩:=hAn.form
   rw [hvn] at hbu
   refine zz ?_
   refine zL1 rfl (cell_at hcru (by omega)) (zz ?_)
   refine zc_draw [17] (fun w'=>Chg u w' No∧Blk w' p 106 [.slice (some ⟨bn,on,none⟩) N.length cn,vu,.slice (some ⟨br,or',none⟩) N.length cr]) (.take 0 (.take 1 (.take 2 (.take 3 (.take 4 (.take 5 (.take 6 (.take 7 (.take 8 (.take 9 (.take 10 (.take 11 (.take 12 (.take 13 (.take 14 (.take 15 (.all1 16 (.last 17)))))))))))))))))) (by rfl) (by kernel_rfl) (by kernel_rfl) (fun u1 hCu1 _=>⟨?_,?_⟩)
   ·exact ⟨hCu1,hbu.no hCu1⟩
   refine zz ?_
   refine zRd rfl rfl (fun _ hS=>r_load1 rfl (cell_at (cell_no hS.1 hcru) (by omega))) ?_
   refine zz ?_
   refine zRd rfl rfl (fun _ hS=>r_load1 rfl (cell_at (cell_no hS.1 hcell) (by omega))) ?_
   refine zz ?_
   refine zRd rfl rfl (fun _ hS=>r_loadA rfl rfl ((hnd.no hS.1).agg (by omega))) ?_
   refine zs_alloc rfl (want_L rfl) (by decide) (fun u2 b2 hN2=> ?_)
   have hCu2:Chg u u2 No:=hCu1.no hN2.chg
   refine ⟨⟨hCu2,hbu.no hCu2⟩,?_⟩
   have hb2:Blk u2 b2 80 [.int .i64 0,.int .i64 0,.string ⟨#[]⟩,.slice none 0 0,.string ⟨#[]⟩,.int .i64 0,.slice none 0 0]:=hN2.blk
   refine zs_storeL rfl (want_L rfl) rfl rfl rfl (by assumption) (by first|exact Nat.le_refl _|simp [Value.cells]) (by simp [Value.cells,Value.oneCell']) (fun u3 hU3=> ?_)
   have hb3:Blk u3 b2 80 [.int .i64 (N.getD nk n0).kind,.int .i64 (N.getD nk n0).space,.string (N.getD nk n0).name,.slice A4 (N.getD nk n0).attrs.length c4,.string (bs (N.getD nk n0).text),.int .i64 0,.slice none 0 0]:=hU3.blk
   have hge2:u.heap.size≤b2:=by have:=hN2.at_;have:=hCu1.size;omega
   have hC3:Chg u u3 No:=hCu2.upd hU3 hge2
   have hA3:AttrS u3 (.slice A4 (N.getD nk n0).attrs.length c4) (N.getD nk n0).attrs:=hAn.no hC3
   have hbu3:=hbu.no hC3
   have hcru3:=cell_no hC3 hcru
   have hcell3:=cell_no hC3 hcell
   refine zz ?_
   refine zL1 rfl (cell_at hcru3 (by omega)) (zz ?_)
   refine zL1 rfl (cell_at hcell3 (by omega)) ?_
   refine zCl rfl (ih (h.no (hC.no hC3)) nk hkn tk htk (by omega)) ?_
   rintro _ u4 ⟨v4,rfl,hT4,hC4⟩
   refine ⟨_,rfl,?_⟩
   obtain ⟨A5,c5,rfl,_⟩:=hT4.at'.form
   have hb4:=hb3.no hC4
   have hs3:=hC3.size
   have hs4:=hC4.size
   have hlt2:=hb3.lt
   refine zfa rfl ?_
   refine z_store (want_L rfl) rfl rfl rfl (by assumption) (by first|exact Nat.le_refl _|simp [Value.cells]) (by simp [Value.cells,Value.oneCell']) (fun u5 hU5=> ?_)
   have hb5:Blk u5 b2 80 [.int .i64 (N.getD nk n0).kind,.int .i64 (N.getD nk n0).space,.string (N.getD nk n0).name,.slice A4 (N.getD nk n0).attrs.length c4,.string (bs (N.getD nk n0).text),.int .i64 0,.slice A5 tk.len c5]:=hU5.blk
   have hC5:Chg u u5 No:=(hC3.no hC4).upd hU5 hge2
   have hT5:=hT4.chg hU5.chg (fun b _ _ hk he=>by omega) (fun b cells hk _ he=>hk.ne hb4 (by decide) he)
   have ha5:AttrS u5 (.slice A4 (N.getD nk n0).attrs.length c4) (N.getD nk n0).attrs:=hAn.no hC5
   have hOut5:=hOut.no hC5
   have hvlt: ∀k,vo.ownBlock=some k→k<u.heap.size:=fun k hk=>by obtain ⟨ms,g1,_,_⟩:=hOut;exact g1.lt hk
   obtain ⟨A0,c0,hv0,hc0⟩:=hOut.form
   obtain ⟨mz,g1,g2,g3⟩:=hOut5
   have hml:=Rows.len _ mz (RowsOk.rows _ mz g3)
   have hBu:w.heap.size≤u.heap.size:=hC.size
   refine zz ?_
   refine zB1 rfl (fun u10 b10 hN10=> ?_)
   have hx9:HR u5 ⟨(N.getD nk n0).kind,(N.getD nk n0).space,(N.getD nk n0).name,.slice A4 (N.getD nk n0).attrs.length c4,bs (N.getD nk n0).text,0,.slice A5 tk.len c5⟩ (hdOf (N.getD nk n0)):=⟨rfl,rfl,rfl,ha5,rfl,rfl⟩
   have hR:RdS u10 80 7 (.slice (some ⟨b10,0,none⟩) 1 1) 1 (encN [⟨(N.getD nk n0).kind,(N.getD nk n0).space,(N.getD nk n0).name,.slice A4 (N.getD nk n0).attrs.length c4,bs (N.getD nk n0).text,0,.slice A5 tk.len c5⟩]):=by
    obtain ⟨kz,h1,_,_⟩:=hT5
    exact RdS.node hx9 h1 hN10
   refine z_appendO (by rfl) (by decide) (want_L rfl) (by decide) rfl rfl (g1.no hN10.chg) hR (by omega) (by omega) (fun v11 u11 hO11 hC11 hr11=> ?_)
   have hOut11:=Out.push g1 g2 g3 hx9 (by intro hl b hb;trivial)
    (hT5.mono (fun b hb hk=>⟨by omega,fun he=>by have:=hvlt b he;omega⟩) (fun b hb hk=>trivial)) (Nat.le_trans hBu hC5.size) hN10.chg hO11 hC11 hr11
   refine zz ?_
   refine zk_loopW (i+1,v11,T.snoc (hdOf (N.getD nk n0)) tk) ⟨by omega,hOut11,by rw [NT.snoc_len,hTl],?_,?_⟩ (by show t.len - (i+1)<t.len - i;omega) ⟨rfl,rfl,rfl,get_int rfl (by simp),trivial⟩
   ·dsimp only
    rw [t.drop_succ i _ tk tr e1,NT.snoc_app,←e1];exact hd
   ·refine ((hC.trans hC5 (fun _ _ h=>h)).no hN10.chg).trans hC11 (fun i hi he=> ?_)
    have:=g2 i he;omega
  ·obtain rfl:i=t.len:=by omega
   rw [t.drop_len,NT.app_nil] at hd
   subst hd
   obtain ⟨Ao,co,hvo,_⟩:=hOut.form
   subst hvo
   refine zz ?_
   refine zL1 rfl (cell_at hcru (by omega)) (zz ?_)
   exact zk_ret1 (.inr rfl) rfl rfl ⟨_,rfl,hOut.tree,hC⟩
end Go.Proofs.YtbcmiijollpgeaaGreat.D
namespace Go.Z
open Go
section
variable {P : Program} {n : Nat} {e : Env} {w : World} {Q : Exit → Act → World → Prop} {ops : Array Oper} {ks : List Nat} {S : World → Prop}
theorem zs_plainR {i:Nat} {o:Oper} {d:Tmp} {v:Value} {r:Ord} (hi:ops[i]? =some o) (hw:Want ops e o.guard) (hd:o.dst=some d) (hdn:d<n) (hr: ∀w',Rd P n e w' o v) (h:ZS P n ops ks S r ((d,v)::e) w Q):ZS P n ops ks S (.plain i r) e w Q:=by
 unfold ZS at*
 intro hsel hS a ha fuel listed hok
 cases fuel with
 |zero=>simp [okOrd] at hok
 |succ f=>
  simp only [okOrd,Bool.and_eq_true] at hok
  obtain ⟨⟨⟨h1,h2⟩,h4⟩,h3⟩:=hok
  have h5: ∀k∈ks,k≠i:=fun k hk=>by
   have:=List.all_eq_true.1 h4 k hk
   simpa using this
  exact wpAnyK_plain hi (Region.noSelect_spec hsel) (fun c a w hq=>hq) h5 f listed a w (Region.free_spec hi h2) (by simpa using h1) (.inl ⟨hw.wanted ha,fun w' _=>hr w' a ha⟩) (fun _=>hS) (h hsel hS _ (by rw [hd];exact ha.put d v hdn) f _ h3)
end
end Go.Z
namespace Go.Proofs.YtbcmiijollpgeaaGreat.D
open Go Go.Z Go.Proofs
section
variable {w : World} {p : Nat} {vn vu vr va : Value} {ms : List MN} {ks : List Value} {N : List ND}
theorem rWrite_calls (h:IsR w p vn vu vr ms ks N) (hW:WF N) (hl:N.length≤9999999) (s:List UInt8) (hs:s.length≤10000000) (ht: ∀i,(N.getD i n0).text.length≤1000000000) (up ahead:Int):
  Calls Tryz.prog 80 [.pointer (some ⟨p,0,none⟩),.string (bs s),.int .i64 up,.int .i64 ahead].toArray w fun e w'=> ∃q vn' vu' vr' ms' ks' N',e= .returned (.bool q)∧IsR w' p vn' vu' vr' ms' ks' N'∧WrR w w' p vn vu vr ks vn' vu' vr' ks'∧WriteR N s up ahead q N':=by
 have bad: ¬WriteOk N up ahead→ ∃q vn' vu' vr' ms' ks' N',(Ending.returned (.bool false))= .returned (.bool q)∧IsR w p vn' vu' vr' ms' ks' N'∧WrR w w p vn vu vr ks vn' vu' vr' ks'∧WriteR N s up ahead q N':=fun hn=>⟨false,vn,vu,vr,ms,ks,N,rfl,h,WrR.refl _ _ _ _ _ _,fun hh=>absurd hh hn,fun _=>⟨rfl,rfl⟩⟩
 refine zCz 70 Tryz.func80 ?_
 refine zz ?_
 refine zCp rfl (rElem_calls h up) ?_
 by_cases h2:isN N up∧(ndOf N up).kind=1
 rotate_left
 ·rw [decide_eq_false h2]
  refine zz ?_
  exact zk_ret1 (.inr rfl) rfl rfl (bad (fun hh=>h2 ⟨hh.1,hh.2.1⟩))
 rw [decide_eq_true h2]
 obtain ⟨j,rfl⟩:=Int.eq_ofNat_of_zero_le h2.1.1
 have hj:j<N.length:=by have:=h2.1.2;omega
 have hkj:=hW.kids_len hj
 refine zz ?_
 refine zCp rfl (rPlace_calls h hW j hj ahead (by omega)) ?_
 cases hpl:placeN (N.getD j n0).kids ahead with
 |none=>
  dsimp only [plI]
  refine zz ?_
  exact zk_ret1 (.inr rfl) rfl rfl (bad (fun hh=>by
   have:(placeN (N.getD j n0).kids ahead).isSome=true:=hh.2.2
   rw [hpl] at this;cases this))
 |some a=>
  have hok:WriteOk N j ahead:=⟨h2.1,h2.2,by show (placeN (N.getD j n0).kids ahead).isSome=true;rw [hpl];rfl⟩
  have hal:=placeN_le hpl
  have hpe:(placeN (ndOf N (j:Nat)).kids ahead).getD 0=a:=by show (placeN (N.getD j n0).kids ahead).getD 0=a;rw [hpl];rfl
  dsimp only [plI]
  refine zz ?_
  refine zEq (r:= []) rfl rfl (fun hse=> ?_) (fun hse=> ?_)
  ·refine zz ?_
   refine zk_ret1 (.inr rfl) rfl rfl ⟨true,_,_,_,_,_,N,rfl,h,WrR.refl _ _ _ _ _ _,fun _=>⟨rfl,?_⟩,fun hh=>absurd hok hh⟩
   rw [hpe];unfold writeN;rw [if_pos hse]
  have hlt:N.length<(N++ [textN s]).length:=by simp
  have put: ∀{u:World} {ms0:List MN} {ks0:List Value} {vn0 vu0 vr0:Value},IsR u p vn0 vu0 vr0 ms0 ks0 (N++ [textN s])→Calls Tryz.prog 82 [.pointer (some ⟨p,0,none⟩),.int .i64 N.length,.int .i64 j,.int .i64 ahead].toArray u fun e w'=> ∃ks',e= .returned (.bool true)∧IsR w' p vn0 vu0 vr0 ms0 ks' (layN (N++ [textN s]) N.length j a)∧WrR u w' p vn0 vu0 vr0 ks0 vn0 vu0 vr0 ks':=fun {u ms0 ks0 vn0 vu0 vr0} hR=>by
   have hW1:=hW.add (x:=textN s) rfl rfl
   have hxn:(N++ [textN s]).getD N.length n0=textN s:=by rw [getD_add,if_pos rfl]
   have hxj:(N++ [textN s]).getD j n0=N.getD j n0:=by rw [getD_add,if_neg (by omega)]
   have hp0:=hW.pos
   have hok2:PutOk (N++ [textN s]) (N.length:Nat) (j:Nat) ahead:=by
    refine ⟨⟨by omega,by omega⟩,⟨by omega,by omega⟩,?_,by omega,?_,fun ha=> ?_,?_⟩
    ·show ((N++ [textN s]).getD j n0).kind=1
     rw [hxj];exact h2.2
    ·show ((N++ [textN s]).getD N.length n0).up<0
     rw [hxn];show (-1:Int)<0;omega
    ·have:=Anc.fresh hW1 (n:=j) (top:=N.length) (by omega) (by rw [hxn];rfl) ha
     omega
    ·show (placeN ((N++ [textN s]).getD j n0).kids ahead).isSome=true
     rw [hxj,hpl];rfl
   refine (rPut_calls hR hW1 (by rw [List.length_append];simp only [List.length_singleton];omega) (N.length:Nat) (j:Nat) ahead).mono fun e w' ⟨q,ks',N',he,g1,g2,g3⟩=> ?_
   obtain ⟨rfl,rfl⟩:=g3.1 hok2
   refine ⟨ks',he,?_,g2⟩
   have e:(placeN (ndOf (N++ [textN s]) (j:Nat)).kids ahead).getD 0=a:=by show (placeN ((N++ [textN s]).getD j n0).kids ahead).getD 0=a;rw [hxj,hpl];rfl
   rw [e] at g1
   exact g1
  have hvn:=h.formN
  obtain ⟨br,or',cr,Ak,ck,hvr,hcr,hks,hck⟩:=h.kd j hj
  have hK:=(h.kid j hj).1
  rw [hks] at hK
  have hb:=h.blk
  rw [hvr] at hb
  by_cases ha0:a=0
  ·subst ha0
   have hcnd: ¬(0<0∧(N.getD (lastK N j 0) n0).kind=2):=fun hh=>absurd hh.1 (by omega)
   refine zz ?_
   refine z_buildE #[.int .i64 2,.int .i64 0,.string ⟨#[]⟩,.slice none 0 0,.string (bs s),.int .i64 0,.slice none 0 0] (want_L rfl) (by decide) rfl (by kernel_rfl) ?_
   refine zCl rfl (rLay_calls (va:= .slice none 0 0) h (by omega) (textN s) rfl rfl (AttrS.nil _)) ?_
   rintro _ u1 ⟨rfl,vn1,vu1,vr1,ms1,ks1,g1,g2⟩
   refine ⟨_,rfl,?_⟩
   refine zP rfl (zP rfl ?_)
   refine zCl rfl (put g1) ?_
   rintro _ u2 ⟨ks2,rfl,g3,g4⟩
   refine ⟨_,rfl,?_⟩
   refine zz ?_
   refine zk_ret1 (.inr rfl) rfl rfl ⟨true,_,_,_,_,_,_,rfl,g3,g2.trans g4,fun _=>⟨rfl,?_⟩,fun hh=>absurd hok hh⟩
   rw [hpe];show _=writeN N s j _;unfold writeN;rw [if_neg hse,if_neg hcnd]
  ·obtain ⟨bk,ok,ck',hvk,_,hck2⟩:=RdS.some hK.rd (by omega)
   cases hvk
   have hcell:=hck2 (a - 1) _ (intC_get _ (a - 1) (by omega))
   have hkm:(N.getD j n0).kids.getD (a - 1) 0<N.length:=lastK_lt hW hj (by omega) hal
   obtain ⟨k,hkk⟩: ∃k,k=(N.getD j n0).kids.getD (a - 1) 0:=⟨_,rfl⟩
   rw [←hkk] at hcell hkm
   have hlk:lastK N j a=k:=hkk.symm
   obtain ⟨bn,on,cn,An,hvn',hnd,hAn⟩:=h.nd k hkm
   rw [hvn'] at hb
   have hc0:=hnd.c0
   have hc4:=hnd.c4
   have htk:=ht k
   refine zz ?_
   refine zL1 rfl (cell_at hcr (by omega)) (zz ?_)
   refine zL1 rfl (cell_at hcell (by omega)) (zz ?_)
   refine z_cmpB (r:=decide ((N.getD k n0).kind=2)) (want_L rfl) (by decide) rfl rfl rfl (by simp [hdOf]) ?_
   by_cases hk2:(N.getD k n0).kind=2
   ·have hcnd:0<a∧(N.getD (lastK N j a) n0).kind=2:=⟨by omega,by rw [hlk];exact hk2⟩
    obtain ⟨bo,co,cells,hvo,_,hB,hfit,hst⟩:=h.txset k hkm
    rw [hvn'] at hvo
    cases hvo
    rw [decide_eq_true hk2]
    refine zz ?_
    refine zc_draw [17] (fun w'=>Chg w w' No∧Blk w' p 106 [.slice (some ⟨bn,0,none⟩) N.length cn,vu,.slice (some ⟨br,or',none⟩) N.length cr]) (.take 0 (.take 1 (.take 2 (.take 3 (.take 4 (.take 5 (.take 6 (.take 7 (.take 8 (.take 9 (.take 10 (.take 11 (.take 12 (.take 13 (.take 14 (.plain 15 (.take 16 (.last 17)))))))))))))))))) (by rfl) (by kernel_rfl) (by kernel_rfl) (fun w1 hCw1 _=>⟨?_,?_⟩)
    ·exact ⟨hCw1,hb.no hCw1⟩
    obtain ⟨bo',co',cells',hvo',_,hB',hfit',hst'⟩:=(h.no hCw1).txset k hkm
    rw [hvn'] at hvo'
    cases hvo'
    refine zz ?_
    refine zRd rfl rfl (fun _ hS=>r_load1 rfl (cell_at (cell_no hS.1 hc4) (by omega))) ?_
    refine zz ?_
    refine zs_plainR rfl (want_L rfl) rfl (by decide) (fun _=>r_ia rfl rfl (by omega) (by omega)) ?_
    refine zRd rfl rfl (fun _ hS=>r_fa rfl) ?_
    refine zs_storeL (o:=k*7+4) rfl (want_L rfl) (ev_ptr rfl (by omega)) rfl rfl hB' hfit' (by simp [Value.cells,Value.oneCell']) (fun w7 hU7=> ?_)
    obtain ⟨ms',g1,g2,g3⟩:=hst' _ w7 hU7
    refine zz ?_
    refine zk_ret1 (.inr rfl) rfl rfl ⟨true,_,_,_,_,_,_,rfl,g1,⟨?_,fun k hk=> .inl hk,fun b cells hb'=>g3 b cells (hb'.no hCw1)⟩,fun _=>⟨rfl,?_⟩,fun hh=>absurd hok hh⟩
    ·exact (hCw1.mono (fun _ _ h=>h.elim)).trans g2 (fun _ _ h=>h)
    ·rw [hpe];show _=writeN N s j _;unfold writeN;rw [if_neg hse,if_pos hcnd,hlk]
   ·have hcnd: ¬(0<a∧(N.getD (lastK N j a) n0).kind=2):=fun hh=>hk2 (by rw [←hlk];exact hh.2)
    rw [decide_eq_false hk2]
    refine zz ?_
    refine z_buildE #[.int .i64 2,.int .i64 0,.string ⟨#[]⟩,.slice none 0 0,.string (bs s),.int .i64 0,.slice none 0 0] (want_L rfl) (by decide) rfl (by kernel_rfl) ?_
    refine zCl rfl (rLay_calls (va:= .slice none 0 0) h (by omega) (textN s) rfl rfl (AttrS.nil _)) ?_
    rintro _ u1 ⟨rfl,vn1,vu1,vr1,ms1,ks1,g1,g2⟩
    refine ⟨_,rfl,?_⟩
    refine zP rfl (zP rfl ?_)
    refine zCl rfl (put g1) ?_
    rintro _ u2 ⟨ks2,rfl,g3,g4⟩
    refine ⟨_,rfl,?_⟩
    refine zz ?_
    refine zk_ret1 (.inr rfl) rfl rfl ⟨true,_,_,_,_,_,_,rfl,g3,g2.trans g4,fun _=>⟨rfl,?_⟩,fun hh=>absurd hok hh⟩
    rw [hpe];show _=writeN N s j _;unfold writeN;rw [if_neg hse,if_neg hcnd]
end
inductive TI (N:List ND):Nat→Nat→List Nat→NT→Prop
 |nil (lo:Nat):TI N lo lo [] .nil
 |cons (lo mid hi:Nat) (ks r:List Nat) (tk tr:NT) (x:Hd):(N.getD lo n0).kids=ks→hdOf (N.getD lo n0)=x→TI N (lo+1) mid ks tk→TI N mid hi r tr→TI N lo hi (lo::r) (.cons x tk tr)
section
variable {N N' : List ND} {lo mid hi : Nat} {ks ks' : List Nat} {t t' : NT}
theorem TI.tf (h:TI N lo hi ks t):TF N ks t:=by
 induction h with
 |nil lo=>exact .nil
 |cons lo mid hi ks r tk tr x h1 h2 _ _ i1 i2=>
  subst h1 h2
  exact .cons _ _ _ _ i1 i2
theorem TI.le (h:TI N lo hi ks t):lo≤hi:=by
 induction h with
 |nil lo=>exact Nat.le_refl _
 |cons lo mid hi ks r tk tr x h1 h2 _ _ i1 i2=>omega
theorem TI.congr (h:TI N lo hi ks t):(∀i,lo≤i→i<hi→(N'.getD i n0).kids=(N.getD i n0).kids∧hdOf (N'.getD i n0)=hdOf (N.getD i n0))→TI N' lo hi ks t:=by
 induction h with
 |nil lo=>exact fun _=> .nil _
 |cons lo mid hi ks r tk tr x h1 h2 a1 a2 i1 i2=>
  intro he
  have l1:=a1.le
  have l2:=a2.le
  obtain ⟨e1,e2⟩:=he lo (Nat.le_refl _) (by omega)
  exact .cons _ _ _ _ _ _ _ _ (e1.trans h1) (e2.trans h2) (i1 fun i p q=>he i (by omega) (by omega)) (i2 fun i p q=>he i (by omega) (by omega))
theorem TI.app (h:TI N lo mid ks t):TI N mid hi ks' t'→TI N lo hi (ks++ks') (t.app t'):=by
 induction h with
 |nil lo=>exact id
 |cons lo mid hi ks r tk tr x h1 h2 a1 a2 i1 i2=>exact fun h=> .cons _ _ _ _ _ _ _ _ h1 h2 a1 (i2 h)
def NT.lastH:NT→Option Hd
 | .nil=>none
 | .cons x _ .nil=>some x
 | .cons _ _ r=>r.lastH
theorem TI.last (h:TI N lo hi ks t):ks≠ []→ ∃x,t.lastH=some x∧hdOf (N.getD (ks.getD (ks.length - 1) 0) n0)=x:=by
 induction h with
 |nil lo=>exact fun h=>absurd rfl h
 |cons lo mid hi ks r tk tr x h1 h2 a1 a2 i1 i2=>
  intro _
  cases a2 with
  |nil=>exact ⟨x,rfl,h2⟩
  |cons lo' mid' hi' ks' r' tk' tr' x' q1 q2 q3 q4=>
   obtain ⟨y,e1,e2⟩:=i2 (by simp)
   refine ⟨y,e1,?_⟩
   rw [←e2]
   rfl
end
structure FT where
 hd:Hd
 done:NT
def ZF (N:List ND):List Nat→List Nat→List FT→Nat→Prop
 |_,[],[],hi=>hi=0
 |c,n::R,f::fr,hi=>hdOf (N.getD n n0)=f.hd∧n<hi∧(∃ks,(N.getD n n0).kids=ks++c∧TI N (n+1) hi ks f.done)∧ZF N [n] R fr n
 |_,_,_,_=>False
section
variable {N N' : List ND}
theorem ZF.congr: ∀{c R:List Nat} {fr:List FT} {hi:Nat},ZF N c R fr hi→(∀i,i<hi→(N'.getD i n0).kids=(N.getD i n0).kids∧hdOf (N'.getD i n0)=hdOf (N.getD i n0))→ZF N' c R fr hi
 |c,[],[],hi,h,_=>h
 |c,n::R,f::fr,hi,⟨h1,h2,⟨ks,h3,h4⟩,h5⟩,he=>by
  obtain ⟨e1,e2⟩:=he n h2
  exact ⟨e2.trans h1,h2,⟨ks,e1.trans h3,h4.congr fun i _ q=>he i q⟩,ZF.congr h5 fun i q=>he i (by omega)⟩
 |c,[],f::fr,hi,h,_=>h.elim
 |c,n::R,[],hi,h,_=>h.elim
theorem ZF.len: ∀{c R:List Nat} {fr:List FT} {hi:Nat},ZF N c R fr hi→R.length=fr.length∧R.length≤hi
 |c,[],[],hi,h=>⟨rfl,Nat.zero_le _⟩
 |c,n::R,f::fr,hi,⟨h1,h2,_,h5⟩=>by
  have:=h5.len
  simp only [List.length_cons]
  omega
 |c,[],f::fr,hi,h=>h.elim
 |c,n::R,[],hi,h=>h.elim
theorem ZF.lt: ∀{c R:List Nat} {fr:List FT} {hi:Nat},ZF N c R fr hi→ ∀k∈R,k<hi
 |c,[],[],hi,h=>by simp
 |c,n::R,f::fr,hi,⟨h1,h2,_,h5⟩=>by
  intro k hk
  rcases List.mem_cons.1 hk with rfl|hk
  ·exact h2
  ·have:=h5.lt k hk;omega
 |c,[],f::fr,hi,h=>h.elim
 |c,n::R,[],hi,h=>h.elim
theorem ZF.nodup: ∀{c R:List Nat} {fr:List FT} {hi:Nat},ZF N c R fr hi→R.Nodup
 |c,[],[],hi,h=>List.nodup_nil
 |c,n::R,f::fr,hi,⟨h1,h2,_,h5⟩=>List.nodup_cons.2 ⟨fun hk=>by have:=h5.lt n hk;omega,h5.nodup⟩
 |c,[],f::fr,hi,h=>h.elim
 |c,n::R,[],hi,h=>h.elim
theorem ZF.pos: ∀{c R:List Nat} {fr:List FT} {hi:Nat},ZF N c R fr hi→ ∀i,i+1<R.length→0<R.getD i 0
 |c,[],[],hi,h=>by simp
 |c,n::R,f::fr,hi,⟨h1,h2,_,h5⟩=>by
  intro i hi
  cases i with
  |zero=>
   rw [List.getD_cons_zero]
   simp only [List.length_cons] at hi
   have h6:=h5.len.2
   omega
  |succ i=>rw [List.getD_cons_succ];exact h5.pos i (by simpa using hi)
 |c,[],f::fr,hi,h=>h.elim
 |c,n::R,[],hi,h=>h.elim
theorem ZF.hdAt: ∀{c R:List Nat} {fr:List FT} {hi:Nat},ZF N c R fr hi→ ∀i,i<R.length→ ∃f,fr[i]? =some f∧hdOf (N.getD (R.getD i 0) n0)=f.hd
 |c,[],[],hi,h=>by simp
 |c,n::R,f::fr,hi,⟨h1,h2,_,h5⟩=>by
  intro i hi
  cases i with
  |zero=>exact ⟨f,rfl,h1⟩
  |succ i=>
   obtain ⟨g,e1,e2⟩:=h5.hdAt i (by simpa using hi)
   exact ⟨g,e1,by rw [List.getD_cons_succ];exact e2⟩
 |c,[],f::fr,hi,h=>h.elim
 |c,n::R,[],hi,h=>h.elim
theorem ZF.opens {top:Nat} {R:List Nat} {f:FT} {fr:List FT} (h:ZF N [] (top::R) (f::fr) N.length) (x:ND) (hk:x.kids= []):
  ZF (layN (N++ [x]) N.length top (N.getD top n0).kids.length) [] (N.length::top::R) (⟨hdOf x,.nil⟩::f::fr) (N.length+1):=by
 obtain ⟨h1,h2,⟨ks,h3,h4⟩,h5⟩:=h
 have hg: ∀i,(layN (N++ [x]) N.length top (N.getD top n0).kids.length).getD i n0=if i=N.length then {x with up:=top} else if i=top then {N.getD top n0 with kids:=(N.getD top n0).kids++ [N.length]} else N.getD i n0:=by
  intro i
  have a1:(N++ [x]).getD N.length n0=x:=by rw [getD_add,if_pos rfl]
  have a2:(N++ [x]).getD top n0=N.getD top n0:=by rw [getD_add,if_neg (by omega)]
  rw [layN_get (by simp) (by simp;omega),a1,a2,getD_add]
  by_cases e1:i=N.length
  ·rw [if_pos e1,if_pos e1]
  ·rw [if_neg e1,if_neg e1,if_neg e1]
   unfold insK
   rw [List.take_length,List.drop_length]
 refine ⟨?_,by omega,⟨[],?_,.nil _⟩,?_,h2,⟨ks,?_,?_⟩,?_⟩
 ·rw [hg,if_pos rfl];rfl
 ·rw [hg,if_pos rfl];exact hk
 ·rw [hg,if_neg (by omega),if_pos rfl];exact h1
 ·rw [hg,if_neg (by omega),if_pos rfl,h3,List.append_nil]
 ·exact h4.congr fun i p q=>by rw [hg,if_neg (by omega),if_neg (by omega)];exact ⟨rfl,rfl⟩
 ·exact h5.congr fun i q=>by rw [hg,if_neg (by omega),if_neg (by omega)];exact ⟨rfl,rfl⟩
theorem ZF.close {n m hi:Nat} {R:List Nat} {f g:FT} {fr:List FT} (h:ZF N [] (n::m::R) (f::g::fr) hi):ZF N [] (m::R) (⟨g.hd,g.done.snoc f.hd f.done⟩::fr) hi:=by
 obtain ⟨h1,h2,⟨ks,h3,h4⟩,h5,h6,⟨ks',h7,h8⟩,h9⟩:=h
 rw [List.append_nil] at h3
 exact ⟨h5,by omega,⟨ks'++ [n],by rw [h7,List.append_nil],h8.app (.cons _ _ _ _ _ _ _ _ h3 h1 h4 (.nil _))⟩,h9⟩
theorem ZF.lastK {top:Nat} {R:List Nat} {f:FT} {fr:List FT} {hi:Nat} (h:ZF N [] (top::R) (f::fr) hi) (hl: ∀x,f.done.lastH=some x→x.kind≠2): ¬(0<(N.getD top n0).kids.length∧(N.getD (lastK N top (N.getD top n0).kids.length) n0).kind=2):=by
 obtain ⟨h1,h2,⟨ks,h3,h4⟩,h5⟩:=h
 rw [List.append_nil] at h3
 rintro ⟨g1,g2⟩
 obtain ⟨x,e1,e2⟩:=h4.last (fun e=>by rw [h3,e] at g1;exact absurd g1 (by simp))
 refine hl x e1 ?_
 rw [←e2]
 unfold D.lastK at g2
 rw [h3] at g2
 exact g2
theorem ZF.text {top:Nat} {R:List Nat} {f:FT} {fr:List FT} (h:ZF N [] (top::R) (f::fr) N.length) (s:List UInt8) (hs:s≠ []) (hl: ∀x,f.done.lastH=some x→x.kind≠2):
  ZF (writeN N s top (N.getD top n0).kids.length) [] (top::R) (⟨f.hd,f.done.snoc (hdOf (textN s)) .nil⟩::fr) (writeN N s top (N.getD top n0).kids.length).length:=by
 unfold writeN
 rw [if_neg hs,if_neg (h.lastK hl),layN_len,List.length_append]
 exact (h.opens (textN s) rfl).close
end
def encT (al:List T.At):List At:=al.map fun a=>(bs a.1,bs a.2)
theorem encT_enc: ∀al:List T.At,encA (encT al)=T.encA al
 | []=>rfl
 |a::r=>by
  have:=encT_enc r
  show Value.string (bs a.1)::Value.string (bs a.2)::encA (encT r)=_
  rw [this];rfl
theorem encT_len (al:List T.At):(encT al).length=al.length:=by simp [encT]
def elemH (nm:List UInt8) (al:List T.At):Hd:=⟨1,1,bs nm,encT al,⟨#[]⟩,0⟩
structure RowN (N:List ND) (L:List Nat) (ns:List (List UInt8)):Prop where
 len:ns.length=L.length
 lt: ∀i,i<L.length→L.getD i 0<N.length
 pos: ∀i,0<i→i<L.length→0<L.getD i 0
 hd: ∀i,i<L.length→ ∃al,hdOf (N.getD (L.getD i 0) n0)=elemH (ns.getD i []) al
section
variable {w w' w0 w1 w2 : World} {t : Nat} {r r' r1 : TP} {N N' : List ND} {L L' : List Nat} {S : Nat → Prop} {ns : List (List UInt8)}
theorem rsIs2_calls (h:IsT w t r N L) {v:Value} {l:List (List UInt8)} (hN:RdS w 9 1 v l.length (T.cellsS l)) (hl:l.length≤100000) (n:Nat) (hn:n<N.length) (nm:List UInt8) (al:List T.At) (hd:hdOf (N.getD n n0)=elemH nm al):
  Calls Tryz.prog 111 [.pointer (some ⟨t,0,none⟩),.int .i64 (n:Nat),v].toArray w fun x w'=>x= .returned (.bool (decide (n≠0∧nm∈l)))∧Chg w w' No:=by
 obtain ⟨A,c,rfl,hc⟩:=hN.form
 have hb:=h.blk
 have hx:nodeOf N (n:Nat)=N.getD n n0:=if_pos ⟨by omega,by omega⟩
 have k1:(nodeOf N (n:Nat)).kind=1:=by rw [hx];exact congrArg Hd.kind hd
 have k2:(nodeOf N (n:Nat)).space=1:=by rw [hx];exact congrArg Hd.space hd
 have k3:(nodeOf N (n:Nat)).name=bs nm:=by rw [hx];exact congrArg Hd.name hd
 refine zCz 32 Tryz.func111 ?_
 refine zz ?_
 refine zCl rfl (rNode_calls h.doc (n:Nat)) ?_
 rintro _ w2 ⟨va,rfl,hA2,hX2⟩
 refine ⟨_,rfl,?_⟩
 rw [k1,k2,k3]
 obtain ⟨A4,c4,rfl,_⟩:=hA2.form
 obtain ⟨m4,hm4⟩: ∃m4,m4=(nodeOf N (n:Nat)).attrs.length:=⟨_,rfl⟩
 rw [←hm4]
 obtain ⟨tx,htx⟩: ∃tx,tx=(nodeOf N (n:Nat)).text:=⟨_,rfl⟩
 rw [←htx]
 refine zAl (fun w3 b3 hN3=> ?_)
 have hb3:Blk w3 b3 80 [.int .i64 0,.int .i64 0,.string ⟨#[]⟩,.slice none 0 0,.string ⟨#[]⟩,.int .i64 0,.slice none 0 0]:=hN3.blk
 refine z_store (want_L rfl) rfl rfl rfl (by assumption) (by first|exact Nat.le_refl _|simp [Value.cells]) (by simp [Value.cells,Value.oneCell']) (fun w4 hU4=> ?_)
 have hb4:Blk w4 b3 80 [.int .i64 1,.int .i64 1,.string (bs nm),.slice A4 m4 c4,.string (bs tx),.int .i64 0,.slice none 0 0]:=hU4.blk
 have hC4:Chg w w4 No:=(hX2.no hN3.chg).upd hU4 (by have:=hN3.at_;have:=hX2.size;omega)
 by_cases h0:n=0
 ·rw [decide_eq_false (fun hh=>hh.1 h0)]
  refine zz ?_
  exact zk_ret1 (.inr rfl) rfl rfl ⟨rfl,hC4⟩
 refine zz ?_
 refine zCp rfl (T.inR_calls l nm (hN.no hC4) hl) ?_
 refine zz ?_
 refine zk_ret1 (.inr rfl) rfl rfl ⟨?_,hC4⟩
 congr 2
 by_cases hm:nm∈l
 ·rw [decide_eq_true hm,decide_eq_true ⟨h0,hm⟩]
 ·rw [decide_eq_false hm,decide_eq_false (fun hh=>hm hh.2)]
def lastI (l ns:List (List UInt8)):Nat→Int
 |0=> -1
 |k+1=>if k=0 then -1 else if ns.getD k []∈l then (k:Int) else lastI l ns k
theorem rsLast_calls (h:IsT w t r N L) (hR:RowN N L ns) (hL:0<L.length) (hLl:L.length≤1000000) {v:Value} {l:List (List UInt8)} (hN:RdS w 9 1 v l.length (T.cellsS l)) (hl:l.length≤100000):
  Calls Tryz.prog 90 [.pointer (some ⟨t,0,none⟩),v].toArray w fun x w'=>x= .returned (.int .i64 (lastI l ns L.length))∧Chg w w' No:=by
 obtain ⟨A,c,rfl,hc⟩:=hN.form
 have hb:=h.blk
 obtain ⟨b,o,c1,hv,_,hcc⟩:=RdS.some h.row.rd hL
 rw [hv] at hb
 refine zCz 27 Tryz.func90 ?_
 refine zz ?_
 refine zc_loopW (ι:=Nat) (fun k u=> [(0,.pointer (some ⟨t,0,none⟩)),(1,.slice A l.length c),(5,.int .i64 k)]) (fun k u=>k<L.length∧lastI l ns (k+1)=lastI l ns L.length∧Chg w u No) (fun k u=>k) (L.length - 1) ⟨by omega,by rw [Nat.sub_add_cancel hL],Chg.refl _ _⟩ ?_ ?_
 ·exact ⟨rfl,rfl,get_int rfl (by omega),trivial⟩
 rintro k u ⟨hk,hf,hC⟩
 rw [←hf]
 cases k with
 |zero=>
  refine zz ?_
  exact zk_ret1 (.inr rfl) rfl rfl ⟨rfl,hC⟩
 |succ k=>
  have hbu:=hb.no hC
  have hcell:u.cell? ⟨b,o+(k+1),none⟩=some (.int .i64 ((L.getD (k+1) 0:Nat):Int)):=cell_no hC (hcc (k+1) _ (intC_get _ (k+1) hk))
  obtain ⟨al,hd⟩:=hR.hd _ hk
  have hp:=hR.pos (k+1) (by omega) hk
  refine zz ?_
  refine zL1 rfl (cell_at hcell (by omega)) (zP rfl ?_)
  refine zCr rfl (rsIs2_calls (h.no hC) (hN.no hC) hl (L.getD (k+1) 0) (hR.lt _ hk) _ al hd) fun u1 hC1=> ?_
  show ZL _ _ _ _ _ _ _
  have e:lastI l ns (k+1+1)=if ns.getD (k+1) []∈l then ((k+1:Nat):Int) else lastI l ns (k+1):=by
   rw [lastI,if_neg (by omega)]
  rw [e]
  by_cases hm:ns.getD (k+1) []∈l
  ·rw [if_pos hm,decide_eq_true (⟨by omega,hm⟩:L.getD (k+1) 0≠0∧ns.getD (k+1) []∈l)]
   refine zz ?_
   exact zk_ret1 (.inr rfl) rfl rfl ⟨rfl,hC.no hC1⟩
  ·rw [if_neg hm,decide_eq_false (fun hh:L.getD (k+1) 0≠0∧ns.getD (k+1) []∈l=>hm hh.2)]
   refine zz ?_
   exact zk_loopW k ⟨by omega,rfl,hC.no hC1⟩ (by omega) ⟨rfl,rfl,get_int rfl (by omega),trivial⟩
theorem wallX_calls {w:World} (sc:Int) (hsc:sc=1∨sc=2∨sc=3∨sc=4) (nm:List UInt8):Calls Tryz.prog 149 [.int .i64 sc,.int .i64 1,.string (bs nm)].toArray w fun e w'=>(∃v,e= .returned (.bool v))∧Chg w w' No:=by
 have fin: ∀(ws:List UInt8),(T.wordsN [] ws).length≤100000→ ∀{u:World} {v:Value},Own u 9 1 v (T.wordsN [] ws).length (T.cellsS (T.wordsN [] ws))→Calls Tryz.prog 97 [v,.string (bs nm)].toArray u fun e w'=>(∃x,e= .returned (.bool x))∧w'=u:=fun ws h1 u v hO=>(T.inR_calls _ nm hO.rd h1).mono fun e w' hh=>⟨⟨_,hh.1⟩,hh.2⟩
 rcases hsc with rfl|rfl|rfl|rfl
 ·refine zCz 45 Tryz.func149 ?_
  refine zz ?_
  refine zCl rfl (T.wordsR_calls (l:= [97,112,112,108,101,116,32,99,97,112,116,105,111,110,32,104,116,109,108,32,109,97,114,113,117,101,101,32,111,98,106,101,99,116,32,116,97,98,108,101,32,116,100,32,116,101,109,112,108,97,116,101,32,116,104]) (by decide)) ?_
  rintro _ w1 ⟨v,rfl,hO,hC⟩
  refine ⟨_,rfl,?_⟩
  refine zP rfl ?_
  refine zCl rfl (fin _ (by decide+kernel) hO) ?_
  rintro _ u ⟨⟨x,rfl⟩,hu⟩
  obtain rfl:=hu.symm
  refine ⟨_,rfl,?_⟩
  refine zz ?_
  exact zk_ret1 (.inr rfl) rfl rfl ⟨⟨_,rfl⟩,hC⟩
 ·refine zCz 45 Tryz.func149 ?_
  refine zz ?_
  refine zCl rfl (T.wordsR_calls (l:= [97,112,112,108,101,116,32,99,97,112,116,105,111,110,32,104,116,109,108,32,109,97,114,113,117,101,101,32,111,98,106,101,99,116,32,116,97,98,108,101,32,116,100,32,116,101,109,112,108,97,116,101,32,116,104,32,111,108,32,117,108]) (by decide)) ?_
  rintro _ w1 ⟨v,rfl,hO,hC⟩
  refine ⟨_,rfl,?_⟩
  refine zP rfl ?_
  refine zCl rfl (fin _ (by decide+kernel) hO) ?_
  rintro _ u ⟨⟨x,rfl⟩,hu⟩
  obtain rfl:=hu.symm
  refine ⟨_,rfl,?_⟩
  refine zz ?_
  exact zk_ret1 (.inr rfl) rfl rfl ⟨⟨_,rfl⟩,hC⟩
 ·refine zCz 45 Tryz.func149 ?_
  refine zz ?_
  refine zCl rfl (T.wordsR_calls (l:= [97,112,112,108,101,116,32,99,97,112,116,105,111,110,32,104,116,109,108,32,109,97,114,113,117,101,101,32,111,98,106,101,99,116,32,116,97,98,108,101,32,116,100,32,116,101,109,112,108,97,116,101,32,116,104,32,98,117,116,116,111,110]) (by decide)) ?_
  rintro _ w1 ⟨v,rfl,hO,hC⟩
  refine ⟨_,rfl,?_⟩
  refine zP rfl ?_
  refine zCl rfl (fin _ (by decide+kernel) hO) ?_
  rintro _ u ⟨⟨x,rfl⟩,hu⟩
  obtain rfl:=hu.symm
  refine ⟨_,rfl,?_⟩
  refine zz ?_
  exact zk_ret1 (.inr rfl) rfl rfl ⟨⟨_,rfl⟩,hC⟩
 ·refine zCz 45 Tryz.func149 ?_
  refine zz ?_
  refine zCl rfl (T.wordsR_calls (l:= [104,116,109,108,32,116,97,98,108,101,32,116,101,109,112,108,97,116,101]) (by decide)) ?_
  rintro _ w1 ⟨v,rfl,hO,hC⟩
  refine ⟨_,rfl,?_⟩
  refine zP rfl ?_
  refine zCl rfl (fin _ (by decide+kernel) hO) ?_
  rintro _ u ⟨⟨x,rfl⟩,hu⟩
  obtain rfl:=hu.symm
  refine ⟨_,rfl,?_⟩
  refine zz ?_
  exact zk_ret1 (.inr rfl) rfl rfl ⟨⟨_,rfl⟩,hC⟩
theorem rsHas2_calls (h:IsT w t r N L) (hR:RowN N L ns) (hL:0<L.length) (hLl:L.length≤1000000) {v:Value} {l:List (List UInt8)} (hN:RdS w 9 1 v l.length (T.cellsS l)) (hl:l.length≤100000) (sc:Int) (hsc:sc=1∨sc=2∨sc=3∨sc=4):
  Calls Tryz.prog 123 [.pointer (some ⟨t,0,none⟩),.int .i64 sc,v].toArray w fun x w'=>(∃q,x= .returned (.bool q)∧(1<L.length→ns.getD (L.length - 1) []∈l→q=true)∧((∀i,ns.getD i []∉l)→q=false))∧Chg w w' No:=by
 obtain ⟨A,c,rfl,hc⟩:=hN.form
 have hb:=h.blk
 obtain ⟨b,o,c1,hv,_,hcc⟩:=RdS.some h.row.rd hL
 rw [hv] at hb
 refine zCz 47 Tryz.func123 ?_
 refine zz ?_
 refine zc_loopW (ι:=Nat) (fun k u=> [(0,.pointer (some ⟨t,0,none⟩)),(1,.int .i64 sc),(2,.slice A l.length c),(7,.int .i64 k)]) (fun k u=>k<L.length∧(k+1<L.length→ns.getD (L.length - 1) []∉l)∧Chg w u No) (fun k u=>k) (L.length - 1) ⟨by omega,fun hh=>by omega,Chg.refl _ _⟩ ?_ ?_
 ·exact ⟨rfl,rfl,rfl,get_int rfl (by omega),trivial⟩
 rintro k u ⟨hk,hf,hC⟩
 cases k with
 |zero=>
  refine zz ?_
  exact zk_ret1 (.inr rfl) rfl rfl ⟨⟨_,rfl,fun h1 h2=>absurd h2 (hf (by omega)),fun _=>rfl⟩,hC⟩
 |succ k=>
  have hbu:=hb.no hC
  have hcell:u.cell? ⟨b,o+(k+1),none⟩=some (.int .i64 ((L.getD (k+1) 0:Nat):Int)):=cell_no hC (hcc (k+1) _ (intC_get _ (k+1) hk))
  obtain ⟨al,hd⟩:=hR.hd _ hk
  have hp:=hR.pos (k+1) (by omega) hk
  have hnl:=hR.lt _ hk
  obtain ⟨nk,hnk⟩: ∃nk,nk=L.getD (k+1) 0:=⟨_,rfl⟩
  rw [←hnk] at hcell hd hp hnl
  obtain ⟨nm,hnm⟩: ∃nm,nm=ns.getD (k+1) []:=⟨_,rfl⟩
  rw [←hnm] at hd
  have hx:nodeOf N (nk:Nat)=N.getD nk n0:=if_pos ⟨by omega,by omega⟩
  have k1:(nodeOf N (nk:Nat)).kind=1:=by rw [hx];exact congrArg Hd.kind hd
  have k2:(nodeOf N (nk:Nat)).space=1:=by rw [hx];exact congrArg Hd.space hd
  have k3:(nodeOf N (nk:Nat)).name=bs nm:=by rw [hx];exact congrArg Hd.name hd
  refine zz ?_
  refine zL1 rfl (cell_at hcell (by omega)) (zP rfl ?_)
  refine zCr rfl (rsIs2_calls (h.no hC) (hN.no hC) hl nk hnl _ al hd) fun u1 hC1=> ?_
  by_cases hm:nm∈l
  ·rw [decide_eq_true (⟨by omega,hm⟩:nk≠0∧nm∈l)]
   refine zz ?_
   exact zk_ret1 (.inr rfl) rfl rfl ⟨⟨_,rfl,fun _ _=>rfl,fun hh=>absurd hm (hnm▸hh (k+1))⟩,hC.no hC1⟩
  rw [decide_eq_false (fun hh:nk≠0∧nm∈l=>hm hh.2)]
  have hf2:ns.getD (L.length - 1) []∉l:=by
   by_cases h1:k+1+1<L.length
   ·exact hf h1
   ·obtain he:L.length - 1=k+1:=by omega
    rw [he,←hnm];exact hm
  have hb1:=hbu.no hC1
  have hcell1:=cell_no hC1 hcell
  refine zz ?_
  refine zc_draw [13] (fun w'=>Chg u1 w' No∧Blk w' t 74 [.pointer (some ⟨r.pd,0,none⟩),.pointer (some ⟨r.pm,0,none⟩),.slice (some ⟨b,o,none⟩) L.length c1,.bool false]) (.take 0 (.take 1 (.take 2 (.take 3 (.take 4 (.take 5 (.take 6 (.take 7 (.take 8 (.take 9 (.take 10 (.all2 11 (.all1 12 (.last 13)) 12 (.all1 11 (.last 13)))))))))))))) (by rfl) (by kernel_rfl) (by kernel_rfl) (fun u2 hC2 _=>⟨?_,?_⟩)
  ·exact ⟨hC2,hb1.no hC2⟩
  refine zz ?_
  refine zRd rfl rfl (fun _ hS=>r_load1 rfl (cell_at (cell_no hS.1 hcell1) (by omega))) ?_
  have hs1:=hC1.size
  have hs2:=hC2.size
  refine zs_two ?_ ?_
  ·refine zo_call rfl (want_L rfl) rfl (by decide) rfl (rNode_calls ((h.no (hC.no hC1)).no hC2).doc _) ?_
   rintro _ u3 ⟨va,rfl,hA3,hC3⟩
   refine ⟨_,rfl,⟨hC2.no hC3,(hb1.no hC2).no hC3⟩,?_⟩
   rw [k1,k2,k3]
   obtain ⟨A4,c4,rfl,_⟩:=hA3.form
   obtain ⟨c4l,hc4l⟩: ∃x,x=(nodeOf N (nk:Nat)).attrs.length:=⟨_,rfl⟩
   rw [←hc4l]
   obtain ⟨tx,htx⟩: ∃tx,tx=(nodeOf N (nk:Nat)).text:=⟨_,rfl⟩
   rw [←htx]
   refine zs_alloc rfl (want_L rfl) (by decide) (fun u4 b8 hN4=> ?_)
   have hb4:Blk u4 b8 80 [.int .i64 0,.int .i64 0,.string ⟨#[]⟩,.slice none 0 0,.string ⟨#[]⟩,.int .i64 0,.slice none 0 0]:=hN4.blk
   refine ⟨⟨(hC2.no hC3).no hN4.chg,((hb1.no hC2).no hC3).no hN4.chg⟩,?_⟩
   refine zs_storeL rfl (want_L rfl) rfl rfl rfl (by assumption) (by first|exact Nat.le_refl _|simp [Value.cells]) (by simp [Value.cells,Value.oneCell']) (fun u5 hU5=> ?_)
   have hC5:Chg u1 u5 No:=((hC2.no hC3).no hN4.chg).upd hU5 (by have:=hN4.at_;have:=hC3.size;omega)
   have hb5:Blk u5 b8 80 [.int .i64 1,.int .i64 1,.string (bs nm),.slice A4 c4l c4,.string (bs tx),.int .i64 0,.slice none 0 0]:=hU5.blk
   refine zz ?_
   refine zCl rfl (wallX_calls sc hsc nm) ?_
   rintro _ u6 ⟨⟨q,rfl⟩,hC6⟩
   refine ⟨_,rfl,?_⟩
   have hC16:Chg w u6 No:=(hC.no hC1).no (hC5.no hC6)
   cases q
   ·refine zz ?_
    exact zk_loopW k ⟨by omega,fun _=>hf2,hC16⟩ (by omega) ⟨rfl,rfl,rfl,get_int rfl (by omega),trivial⟩
   ·refine zz ?_
    exact zk_ret1 (.inr rfl) rfl rfl ⟨⟨_,rfl,fun _ h2=>absurd h2 hf2,fun _=>rfl⟩,hC16⟩
  ·refine zo_alloc rfl (want_L rfl) (by decide) (fun u4 b8 hN4=> ?_)
   have hb4:Blk u4 b8 80 [.int .i64 0,.int .i64 0,.string ⟨#[]⟩,.slice none 0 0,.string ⟨#[]⟩,.int .i64 0,.slice none 0 0]:=hN4.blk
   refine ⟨⟨hC2.no hN4.chg,(hb1.no hC2).no hN4.chg⟩,?_⟩
   refine zs_call rfl (want_L rfl) rfl (by decide) rfl (rNode_calls (((h.no (hC.no hC1)).no hC2).no hN4.chg).doc _) ?_
   rintro _ u3 ⟨va,rfl,hA3,hC3⟩
   refine ⟨_,rfl,⟨(hC2.no hN4.chg).no hC3,((hb1.no hC2).no hN4.chg).no hC3⟩,?_⟩
   rw [k1,k2,k3]
   obtain ⟨A4,c4,rfl,_⟩:=hA3.form
   obtain ⟨c4l,hc4l⟩: ∃x,x=(nodeOf N (nk:Nat)).attrs.length:=⟨_,rfl⟩
   rw [←hc4l]
   obtain ⟨tx,htx⟩: ∃tx,tx=(nodeOf N (nk:Nat)).text:=⟨_,rfl⟩
   rw [←htx]
   have hb4:=hb4.no hC3
   refine zs_storeL rfl (want_L rfl) rfl rfl rfl (by assumption) (by first|exact Nat.le_refl _|simp [Value.cells]) (by simp [Value.cells,Value.oneCell']) (fun u5 hU5=> ?_)
   have hC5:Chg u1 u5 No:=((hC2.no hN4.chg).no hC3).upd hU5 (by have:=hN4.at_;omega)
   have hb5:Blk u5 b8 80 [.int .i64 1,.int .i64 1,.string (bs nm),.slice A4 c4l c4,.string (bs tx),.int .i64 0,.slice none 0 0]:=hU5.blk
   refine zz ?_
   refine zCl rfl (wallX_calls sc hsc nm) ?_
   rintro _ u6 ⟨⟨q,rfl⟩,hC6⟩
   refine ⟨_,rfl,?_⟩
   have hC16:Chg w u6 No:=(hC.no hC1).no (hC5.no hC6)
   cases q
   ·refine zz ?_
    exact zk_loopW k ⟨by omega,fun _=>hf2,hC16⟩ (by omega) ⟨rfl,rfl,rfl,get_int rfl (by omega),trivial⟩
   ·refine zz ?_
    exact zk_ret1 (.inr rfl) rfl rfl ⟨⟨_,rfl,fun _ h2=>absurd h2 hf2,fun _=>rfl⟩,hC16⟩
end
structure MK where
 n:Int
 nm:List UInt8
 A:Option Addr
 l:Nat
 c:Nat
def mk0:MK:=⟨0,[],none,0,0⟩
def MK.wall:MK:=⟨-1,[],none,0,0⟩
def encK:List MK→List Value
 | []=> []
 |m::r=> .int .i64 m.n:: .string (bs m.nm):: .slice m.A m.l m.c::encK r
theorem encK_app: ∀l r:List MK,encK (l++r)=encK l++encK r
 | [],r=>rfl
 |m::l,r=>by simp [encK,encK_app l r]
theorem encK_one: ∀(l:List MK),∀u∈encK l,u.oneCell'=true
 | [],u,h=>by simp [encK] at h
 |m::r,u,h=>by
  simp only [encK,List.mem_cons] at h
  rcases h with rfl|rfl|rfl|h
  ·rfl
  ·rfl
  ·rfl
  ·exact encK_one r u h
theorem encK_get: ∀(l:List MK) (i:Nat),i<l.length→(encK l)[i*3]? =some (.int .i64 (l.getD i mk0).n)∧(encK l)[i*3+1]? =some (.string (bs (l.getD i mk0).nm))∧(encK l)[i*3+2]? =some (.slice (l.getD i mk0).A (l.getD i mk0).l (l.getD i mk0).c)
 | [],i,h=>by simp at h
 |m::l,0,h=>by simp [encK]
 |m::l,i+1,h=>by
  have:=encK_get l i (by simpa using h)
  rw [show (i+1)*3=i*3+1+1+1 by omega]
  simpa [encK,show i*3+1+1+1+1=(i*3+1)+1+1+1 by omega,show i*3+1+1+1+2=(i*3+2)+1+1+1 by omega] using this
theorem encK_take: ∀(l:List MK) (k:Nat),(encK l).take (k*3)=encK (l.take k)
 | [],k=>by simp [encK]
 |m::l,0=>by simp [encK]
 |m::l,k+1=>by
  rw [show (k+1)*3=k*3+1+1+1 by omega]
  simp [encK,encK_take l k]
theorem encK_drop: ∀(l:List MK) (k:Nat),(encK l).drop (k*3)=encK (l.drop k)
 | [],k=>by simp [encK]
 |m::l,0=>by simp [encK]
 |m::l,k+1=>by
  rw [show (k+1)*3=k*3+1+1+1 by omega]
  simp [encK,encK_drop l k]
structure IsK (w:World) (pm:Nat) (vm:Value) (M:List MK):Prop where
 blk:Blk w pm 121 [vm]
 row:Own w 173 3 vm M.length (encK M)
def FM (W:Nat) (w:World) (v:Value) (m:Nat) (cs:List Value):Prop:=Own w 173 3 v m cs∧ ∀k,v.ownBlock=some k→W≤k
section
variable {W m m' : Nat} {w w' w0 : World} {v v' : Value} {cs cs' : List Value}
theorem FM.no (h:FM W w v m cs) (hc:Chg w w' No):FM W w' v m cs:=⟨h.1.no hc,h.2⟩
theorem FM.grow (h:FM W w v m cs) (hW:W≤w.heap.size) (hO:Own w' 173 3 v' m' cs') (hr:v'.ownBlock=v.ownBlock∨ ∃k,v'.ownBlock=some k∧w.heap.size≤k):FM W w' v' m' cs':=⟨hO,fun k hk=>by
 rcases hr with e|⟨j,e,e2⟩
 ·exact h.2 k (e▸hk)
 ·rw [hk] at e;cases e;omega⟩
theorem FM.ch (h:FM w0.heap.size w v m cs) (h0:Chg w0 w No) (hc:Chg w w' (fun k=>v.ownBlock=some k)):Chg w0 w' No:=h0.trans hc (fun k hk he=>by have:=h.2 k he;omega)
theorem FM.rd (h:FM W w v m cs) (hc:Chg w w' (fun k=>v.ownBlock=some k)) {x:Value} {n:Nat} {xs:List Value} (hr:RdS w 173 3 x n xs) (hne: ∀k,v.ownBlock=some k→x.ownBlock≠some k):RdS w' 173 3 x n xs:=RdS.chgAt hr hc (fun _ b _ hb _ he=>hne b he hb)
end
section
variable {w w' w0 w1 w2 : World} {pm : Nat} {vm : Value} {M : List MK}
theorem IsK.no (h:IsK w pm vm M) (hc:Chg w w' No):IsK w' pm vm M:=⟨h.blk.no hc,h.row.no hc⟩
theorem IsK.form (h:IsK w pm vm M): ∃A c,vm= .slice A M.length c∧M.length≤c:=h.row.rd.form
theorem IsK.at_ (h:IsK w pm vm M) (i:Nat) (hi:i<M.length): ∃b o c,vm= .slice (some ⟨b,o,none⟩) M.length c∧w.cell? ⟨b,o+i*3,none⟩=some (.int .i64 (M.getD i mk0).n)∧w.cell? ⟨b,o+i*3+1,none⟩=some (.string (bs (M.getD i mk0).nm))∧w.cell? ⟨b,o+i*3+2,none⟩=some (.slice (M.getD i mk0).A (M.getD i mk0).l (M.getD i mk0).c):=by
 obtain ⟨b,o,c,hv,_,hc⟩:=RdS.some h.row.rd (by omega)
 obtain ⟨e1,e2,e3⟩:=encK_get M i hi
 exact ⟨b,o,c,hv,hc _ _ e1,by have:=hc _ _ e2;rwa [←Nat.add_assoc] at this,by have:=hc _ _ e3;rwa [←Nat.add_assoc] at this⟩
theorem mkLen_calls (h:IsK w pm vm M):Calls Tryz.prog 152 [.pointer (some ⟨pm,0,none⟩)].toArray w fun e w'=>e= .returned (.int .i64 (M.length:Nat))∧w'=w:=by
 obtain ⟨A,c,rfl,hc⟩:=h.form
 have hb:=h.blk
 refine zCz 8 Tryz.func152 ?_
 refine zz ?_
 exact zk_ret1 (.inr rfl) rfl rfl ⟨rfl,rfl⟩
theorem mkIs_calls (h:IsK w pm vm M) (i:Nat) (hi:i<M.length) (hl:M.length≤1000000):Calls Tryz.prog 178 [.pointer (some ⟨pm,0,none⟩),.int .i64 (i:Nat)].toArray w fun e w'=>e= .returned (.bool true)∧w'=w:=by
 obtain ⟨A,c,rfl,hc⟩:=h.form
 have hb:=h.blk
 refine zCz 16 Tryz.func178 ?_
 refine zz ?_
 exact zk_ret1 (.inr rfl) rfl rfl ⟨rfl,rfl⟩
theorem mk_agg {w:World} {b o o':Nat} {x y z:Value} (e1:w.cell? ⟨b,o,none⟩=some x) (e2:w.cell? ⟨b,o+1,none⟩=some y) (e3:w.cell? ⟨b,o+2,none⟩=some z) (ho:o'=o): ∀j u,[x,y,z][j]? =some u→w.cell? ((⟨b,o',none⟩:Addr).add j)=some u:=fun j u hj=>by
 subst ho
 rw [addr_add]
 have hj3:j<3:=(List.getElem?_eq_some_iff.1 hj).1
 match j,hj3 with
 |0,_=>simp at hj;subst hj;exact e1
 |1,_=>simp at hj;subst hj;exact e2
 |2,_=>simp at hj;subst hj;exact e3
theorem mkAt_calls (h:IsK w pm vm M) (i:Nat) (hi:i<M.length) (hl:M.length≤1000000):Calls Tryz.prog 154 [.pointer (some ⟨pm,0,none⟩),.int .i64 (i:Nat)].toArray w fun e w'=>e= .returned (.tuple #[.agg #[.int .i64 (M.getD i mk0).n,.string (bs (M.getD i mk0).nm),.slice (M.getD i mk0).A (M.getD i mk0).l (M.getD i mk0).c],.bool true])∧Chg w w' No:=by
 refine zCz 18 Tryz.func154 ?_
 refine zS (zR ?_)
 refine zAl (fun w1 b1 hN1=> ?_)
 have hb1:Blk w1 b1 173 [.int .i64 0,.string ⟨#[]⟩,.slice none 0 0]:=hN1.blk
 have h1:=h.no hN1.chg
 have hge:=hN1.ge (Chg.refl _ No)
 have hb:=h1.blk
 obtain ⟨b,o,c,hv,e1,e2,e3⟩:=h1.at_ i hi
 rw [hv] at hb
 refine zz ?_
 refine zCp rfl (mkIs_calls h1 i hi hl) ?_
 refine zz ?_
 refine z_loadA (by rfl) (want_L rfl) (by decide) rfl (mk_agg e1 e2 e3 (by omega)) ?_
 refine z_store (want_L rfl) rfl rfl rfl (by assumption) (by first|exact Nat.le_refl _|simp [Value.cells]) (by simp [Value.cells,Value.oneCell']) (fun w2 hU2=> ?_)
 have hb2:Blk w2 b1 173 [.int .i64 (M.getD i mk0).n,.string (bs (M.getD i mk0).nm),.slice (M.getD i mk0).A (M.getD i mk0).l (M.getD i mk0).c]:=hU2.blk
 refine zz ?_
 exact zk_retCT (.inr rfl) rfl rfl rfl hb2 rfl ⟨rfl,hN1.chg.upd hU2 hge⟩
def wallK (M:List MK):Nat→Nat
 |0=>0
 |k+1=>if (M.getD k mk0).n<0 then k+1 else wallK M k
theorem wallK_le (M:List MK): ∀k,wallK M k≤k
 |0=>Nat.le_refl _
 |k+1=>by unfold wallK;split;exact Nat.le_refl _;have:=wallK_le M k;omega
theorem mkWall0_calls (h:IsK w pm vm M) (hl:M.length≤1000000):Calls Tryz.prog 177 [.pointer (some ⟨pm,0,none⟩)].toArray w fun e w'=>e= .returned (.int .i64 (wallK M M.length:Nat))∧w'=w:=by
 obtain ⟨A,c,hv0,hc⟩:=h.form
 have hb:=h.blk
 rw [hv0] at hb
 refine zCz 25 Tryz.func177 ?_
 refine zz ?_
 refine zc_loopW (ι:=Nat) (fun k u=> [(0,.pointer (some ⟨pm,0,none⟩)),(3,.int .i64 ((k:Nat) - 1:Int))]) (fun k u=>k≤M.length∧wallK M k=wallK M M.length∧u=w) (fun k u=>k) M.length ⟨Nat.le_refl _,rfl,rfl⟩ ?_ ?_
 ·exact ⟨rfl,get_int rfl (by omega),trivial⟩
 rintro k u ⟨hk,hf,hu⟩
 obtain rfl:=hu.symm
 cases k with
 |zero=>
  refine zz ?_
  exact zk_ret1 (.inr rfl) rfl rfl ⟨by rw [←hf];rfl,rfl⟩
 |succ k=>
  obtain ⟨b,o,c',hv,e1,e2,e3⟩:=h.at_ k (by omega)
  rw [hv0] at hv
  cases hv
  obtain ⟨x,hx⟩: ∃x,x=(M.getD k mk0).n:=⟨_,rfl⟩
  rw [←hx] at e1
  have e:wallK M (k+1)=if (M.getD k mk0).n<0 then k+1 else wallK M k:=rfl
  rw [e,←hx] at hf
  refine zz ?_
  refine zL1 rfl (cell_at e1 (by omega)) ?_
  by_cases hneg:x<0
  ·refine zz ?_
   rw [if_pos hneg] at hf
   refine zk_ret1 (.inr rfl) rfl rfl ⟨?_,rfl⟩
   rw [←hf]
   simp
  ·refine zz ?_
   rw [if_neg hneg] at hf
   exact zk_loopW k ⟨by omega,hf,rfl⟩ (by omega) ⟨rfl,get_int rfl (by omega),trivial⟩
end
section
variable {w w' w0 w1 w2 : World} {pm : Nat} {vm v : Value} {M M' : List MK}
theorem IsK.put (h:IsK w pm vm M) (hC:Chg w w1 No) (hU:Upd w1 w' pm 121 [v]) (hF:FM w.heap.size w1 v M'.length (encK M')):IsK w' pm v M'∧Chg w w' (· =pm)∧(∀k,v.ownBlock=some k→w.heap.size≤k):=by
 have hR:OneT w1 121 (fun k=>k=pm):=fun k hk=>⟨_,hk▸(h.blk.no hC)⟩
 exact ⟨⟨hU.blk,hF.1.typ hU.chg hR (by decide)⟩,(hC.mono (fun _ _ h=>h.elim)).trans hU.chg (fun k _ hk=>hk),hF.2⟩
def MPost (w:World) (pm:Nat) (M':List MK) (x:Value) (e:Ending) (w':World):Prop:=e= .returned x∧ ∃v,IsK w' pm v M'∧Chg w w' (· =pm)∧(∀k,v.ownBlock=some k→w.heap.size≤k)
theorem mkWall_calls (h:IsK w pm vm M) (hl:M.length≤1000000):Calls Tryz.prog 128 [.pointer (some ⟨pm,0,none⟩)].toArray w (MPost w pm (M++ [MK.wall]) (.tuple #[])):=by
 obtain ⟨A,c,hv0,hc⟩:=h.form
 have hb:=h.blk
 rw [hv0] at hb
 refine zCz 14 Tryz.func128 ?_
 refine zR (zP rfl ?_)
 refine z_bs0 (want_L rfl) (by decide) (fun w1 b1 hN1=> ?_)
 have hC1:Chg w w1 No:=hN1.chg
 have hF1:FM w.heap.size w1 (.slice (some ⟨b1,0,none⟩) 0 0) 0 []:=⟨Own.empty hN1,fun k hk=>by simp only [Value.ownBlock,Option.some.injEq] at hk;have:=hN1.at_;omega⟩
 have hb1:=hb.no hC1
 have hr:=h.row.rd.no hC1
 rw [hv0] at hr
 refine zz ?_
 refine z_appendO (by rfl) (by decide) (want_L rfl) (by decide) rfl rfl hF1.1 hr (by omega) (by omega) (fun v2 w2 hO2 hX2 hr2=> ?_)
 have hC2:Chg w w2 No:=hF1.ch hC1 hX2
 have hF2:=hF1.grow hC1.size hO2 hr2
 obtain ⟨A2,c2,hv2,_⟩:=hF2.1.rd.form
 subst hv2
 refine z_buildE #[.int .i64 (-1),.string ⟨#[]⟩,.slice none 0 0] (want_L rfl) (by decide) rfl (by kernel_rfl) ?_
 refine zB1 rfl (fun w3 b3 hN3=> ?_)
 have hC3:=hC2.no hN3.chg
 have hF3:=hF2.no hN3.chg
 have hr3:RdS w3 173 3 (.slice (some ⟨b3,0,none⟩) 1 1) 1 (encK [MK.wall]):=RdS.new hN3 rfl (encK_one _)
 refine z_appendO (by rfl) (by decide) (want_L rfl) (by decide) rfl rfl hF3.1 hr3 (by omega) (by omega) (fun v4 w4 hO4 hX4 hr4=> ?_)
 have hC4:Chg w w4 No:=hF3.ch hC3 hX4
 have hF4:=hF3.grow hC3.size hO4 hr4
 obtain ⟨A4,c4,hv4,_⟩:=hF4.1.rd.form
 subst hv4
 have hb4:=hb.no hC4
 rw [List.nil_append,←encK_app] at hF4
 have hF5:FM w.heap.size w4 (.slice A4 (0+M.length+1) c4) (M++ [MK.wall]).length (encK (M++ [MK.wall])):=by rw [show (M++ [MK.wall]).length=0+M.length+1 by simp];exact hF4
 refine zP rfl (zfa rfl ?_)
 refine z_store (want_L rfl) rfl rfl rfl (by assumption) (by first|exact Nat.le_refl _|simp [Value.cells]) (by simp [Value.cells,Value.oneCell']) (fun w5 hU5=> ?_)
 refine zN ?_
 exact zk_ret0 (.inl rfl) rfl ⟨rfl,_,h.put hC4 hU5 hF5⟩
theorem wall_max (k:Nat):((k - 1:Nat):Int)=if (0:Int)>(k:Int) - 1 then 0 else (k:Int) - 1:=by split<;>omega
theorem mkClear_calls (h:IsK w pm vm M) (hl:M.length≤1000000):Calls Tryz.prog 151 [.pointer (some ⟨pm,0,none⟩)].toArray w (MPost w pm (M.take (wallK M M.length - 1)) (.tuple #[])):=by
 obtain ⟨A,c,hv0,hc⟩:=h.form
 have hb:=h.blk
 have hK:=h.row
 rw [hv0] at hb hK
 have hle:=wallK_le M M.length
 obtain ⟨k,hk⟩: ∃k,k=wallK M M.length:=⟨_,rfl⟩
 rw [←hk] at hle
 rw [←hk]
 have fin: ∀{u:World} {v:Value} {m:Nat},FM w.heap.size u v m ([]++(encK M).take ((k - 1)*3))→m=0+(k - 1)→FM w.heap.size u v (M.take (k - 1)).length (encK (M.take (k - 1))):=fun {u v m} hF hm=>by
  rw [List.nil_append,encK_take] at hF
  rw [show (M.take (k - 1)).length=m by rw [List.length_take];omega]
  exact hF
 refine zCz 16 Tryz.func151 ?_
 refine zc_draw [14] (fun w'=>Chg w w' No∧Blk w' pm 121 [.slice A M.length c]) (.take 0 (.take 2 (.take 3 (.take 4 (.take 5 (.take 6 (.all2 1 (.all1 7 (.take 8 (.take 9 (.take 10 (.all1 11 (.plain 12 (.take 13 (.last 14)))))))) 7 (.take 8 (.take 9 (.take 10 (.all1 1 (.all1 11 (.plain 12 (.take 13 (.last 14))))))))))))))) (by rfl) (by kernel_rfl) (by kernel_rfl) (fun w1 hC1 _=>⟨?_,?_⟩)
 ·exact ⟨hC1,hb.no hC1⟩
 refine zz ?_
 refine zs_two ?_ ?_
 ·refine zo_bs0 rfl (want_L rfl) (by decide) (fun w2 ca hMw2=> ?_)
  have hCw2:Chg w w2 No:=hC1.no hMw2.chg
  refine ⟨⟨hCw2,hb.no hCw2⟩,?_⟩
  have hF:FM w.heap.size w2 (.slice (some ⟨ca,0,none⟩) 0 0) 0 []:=⟨Own.empty hMw2,fun k hk=>by simp only [Value.ownBlock,Option.some.injEq] at hk;have:=hMw2.at_;have:=hC1.size;omega⟩
  refine zs_call rfl (want_L rfl) rfl (by decide) rfl (mkWall0_calls (h.no hCw2) hl) ?_
  rintro _ w3 ⟨rfl,hw3⟩
  obtain rfl:=hw3.symm
  rw [←hk]
  refine ⟨_,rfl,⟨hCw2,hb.no hCw2⟩,?_⟩
  refine zz ?_
  refine zRd rfl rfl (fun _ hS=>r_max rfl rfl (wall_max k)) ?_
  refine zRd rfl rfl (fun _ hS=>r_cutTo (k:=k - 1) hK.flat rfl rfl (by omega)) ?_
  refine zs_appendO rfl (by rfl) (by decide) (want_L rfl) (by decide) rfl rfl hF.1 ((hK.take (k - 1) (by omega)).rd.no hCw2) (by omega) (by omega) (fun vw3 w3 hOw3 hXw3 hrw3=> ?_)
  have hCw3:Chg w w3 No:=hF.ch hCw2 hXw3
  refine ⟨⟨hCw3,hb.no hCw3⟩,?_⟩
  have hF:=hF.grow hCw2.size hOw3 hrw3
  obtain ⟨Aw3,cw3,hvw3,_⟩:=hF.1.rd.form
  subst hvw3
  have hb3:=hb.no hCw3
  refine zz ?_
  refine zs_storeL rfl (want_L rfl) rfl rfl rfl (by assumption) (by first|exact Nat.le_refl _|simp [Value.cells]) (by simp [Value.cells,Value.oneCell']) (fun w5 hU5=> ?_)
  exact zk_ret0 (.inl rfl) rfl ⟨rfl,_,h.put hCw3 hU5 (fin hF rfl)⟩
 ·refine zo_call rfl (want_L rfl) rfl (by decide) rfl (mkWall0_calls (h.no hC1) hl) ?_
  rintro _ w3 ⟨rfl,hw3⟩
  obtain rfl:=hw3.symm
  rw [←hk]
  refine ⟨_,rfl,⟨hC1,hb.no hC1⟩,?_⟩
  refine zz ?_
  refine zRd rfl rfl (fun _ hS=>r_max rfl rfl (wall_max k)) ?_
  refine zRd rfl rfl (fun _ hS=>r_cutTo (k:=k - 1) hK.flat rfl rfl (by omega)) ?_
  refine zs_bs0 rfl (want_L rfl) (by decide) (fun w2 ca hMw2=> ?_)
  have hCw2:Chg w w2 No:=hC1.no hMw2.chg
  refine ⟨⟨hCw2,hb.no hCw2⟩,?_⟩
  have hF:FM w.heap.size w2 (.slice (some ⟨ca,0,none⟩) 0 0) 0 []:=⟨Own.empty hMw2,fun k hk=>by simp only [Value.ownBlock,Option.some.injEq] at hk;have:=hMw2.at_;have:=hC1.size;omega⟩
  refine zs_appendO rfl (by rfl) (by decide) (want_L rfl) (by decide) rfl rfl hF.1 ((hK.take (k - 1) (by omega)).rd.no hCw2) (by omega) (by omega) (fun vw3 w3 hOw3 hXw3 hrw3=> ?_)
  have hCw3:Chg w w3 No:=hF.ch hCw2 hXw3
  refine ⟨⟨hCw3,hb.no hCw3⟩,?_⟩
  have hF:=hF.grow hCw2.size hOw3 hrw3
  obtain ⟨Aw3,cw3,hvw3,_⟩:=hF.1.rd.form
  subst hvw3
  have hb3:=hb.no hCw3
  refine zz ?_
  refine zs_storeL rfl (want_L rfl) rfl rfl rfl (by assumption) (by first|exact Nat.le_refl _|simp [Value.cells]) (by simp [Value.cells,Value.oneCell']) (fun w5 hU5=> ?_)
  exact zk_ret0 (.inl rfl) rfl ⟨rfl,_,h.put hCw3 hU5 (fin hF rfl)⟩
theorem mkDrop_calls (h:IsK w pm vm M) (hl:M.length≤1000000) (i:Nat) (hi:i<M.length):Calls Tryz.prog 184 [.pointer (some ⟨pm,0,none⟩),.int .i64 (i:Nat)].toArray w (MPost w pm (M.take i++M.drop (i+1)) (.bool true)):=by
 obtain ⟨A,c,hv0,hc⟩:=h.form
 have hb:=h.blk
 have hK:=h.row
 rw [hv0] at hb hK
 refine zCz 28 Tryz.func184 ?_
 refine zz ?_
 refine zCp rfl (mkIs_calls h i hi hl) ?_
 refine zz ?_
 refine zc_draw [19] (fun w'=>Chg w w' No∧Blk w' pm 121 [.slice A M.length c]) (.take 0 (.take 2 (.take 3 (.take 4 (.take 5 (.take 6 (.take 7 (.take 9 (.take 10 (.take 11 (.take 12 (.take 13 (.take 14 (.take 15 (.all1 1 (.all1 8 (.all1 16 (.plain 17 (.take 18 (.last 19)))))))))))))))))))) (by rfl) (by kernel_rfl) (by kernel_rfl) (fun w1 hC1 _=>⟨?_,?_⟩)
 ·exact ⟨hC1,hb.no hC1⟩
 refine zz ?_
 refine zRd rfl rfl (fun _ hS=>r_cutTo (k:=i) hK.flat rfl rfl (by omega)) ?_
 refine zz ?_
 refine zRd rfl rfl (fun _ hS=>r_cutFrom (k:=i+1) rfl (by show some _=_;simp) (by omega) (by omega)) ?_
 refine zs_bs0 rfl (want_L rfl) (by decide) (fun w2 ca hMw2=> ?_)
 have hCw2:Chg w w2 No:=hC1.no hMw2.chg
 refine ⟨⟨hCw2,hb.no hCw2⟩,?_⟩
 have hF:FM w.heap.size w2 (.slice (some ⟨ca,0,none⟩) 0 0) 0 []:=⟨Own.empty hMw2,fun k hk=>by simp only [Value.ownBlock,Option.some.injEq] at hk;have:=hMw2.at_;have:=hC1.size;omega⟩
 refine zs_appendO rfl (by rfl) (by decide) (want_L rfl) (by decide) rfl rfl hF.1 ((hK.take i (by omega)).rd.no hCw2) (by omega) (by omega) (fun vw3 w3 hOw3 hXw3 hrw3=> ?_)
 have hCw3:Chg w w3 No:=hF.ch hCw2 hXw3
 refine ⟨⟨hCw3,hb.no hCw3⟩,?_⟩
 have hF:=hF.grow hCw2.size hOw3 hrw3
 obtain ⟨Aw3,cw3,hvw3,_⟩:=hF.1.rd.form
 subst hvw3
 refine zs_appendO rfl (by rfl) (by decide) (want_L rfl) (by decide) rfl rfl hF.1 ((RdS.cut hK.rd (k:=i+1) (by omega)).no hCw3) (by omega) (by omega) (fun vw4 w4 hOw4 hXw4 hrw4=> ?_)
 have hCw4:Chg w w4 No:=hF.ch hCw3 hXw4
 refine ⟨⟨hCw4,hb.no hCw4⟩,?_⟩
 have hF:=hF.grow hCw3.size hOw4 hrw4
 obtain ⟨Aw4,cw4,hvw4,_⟩:=hF.1.rd.form
 subst hvw4
 have hb3:=hb.no hCw4
 have hF5:FM w.heap.size w4 (.slice Aw4 (0+i+(M.length - (i+1))) cw4) (M.take i++M.drop (i+1)).length (encK (M.take i++M.drop (i+1))):=by
  rw [List.nil_append,encK_take,encK_drop,←encK_app] at hF
  rw [show (M.take i++M.drop (i+1)).length=0+i+(M.length - (i+1)) by rw [List.length_append,List.length_take,List.length_drop];omega]
  exact hF
 refine zz ?_
 refine zs_storeL rfl (want_L rfl) rfl rfl rfl (by assumption) (by first|exact Nat.le_refl _|simp [Value.cells]) (by simp [Value.cells,Value.oneCell']) (fun w5 hU5=> ?_)
 refine zz ?_
 exact zk_ret1 (.inr rfl) rfl rfl ⟨rfl,_,h.put hCw4 hU5 hF5⟩
end
section
variable {w w' w0 w1 w2 : World} {pm : Nat} {vm v : Value} {M M' : List MK}
def findM (M:List MK) (nm:List UInt8) (wl:Nat):Nat→Int
 |0=> -1
 |k+1=>if k<wl then -1 else if (M.getD k mk0).nm=nm then (k:Int) else findM M nm wl k
theorem mkFind_calls (h:IsK w pm vm M) (hl:M.length≤1000000) (nm:List UInt8):Calls Tryz.prog 183 [.pointer (some ⟨pm,0,none⟩),.string (bs nm)].toArray w fun e w'=>e= .returned (.int .i64 (findM M nm (wallK M M.length) M.length))∧w'=w:=by
 obtain ⟨A,c,hv0,hc⟩:=h.form
 have hb:=h.blk
 rw [hv0] at hb
 obtain ⟨wl,hwl⟩: ∃wl,wl=wallK M M.length:=⟨_,rfl⟩
 rw [←hwl]
 refine zCz 29 Tryz.func183 ?_
 refine zz ?_
 refine zc_loopW (ι:=Nat) (fun k u=> [(0,.pointer (some ⟨pm,0,none⟩)),(1,.string (bs nm)),(5,.int .i64 ((k:Nat) - 1:Int))]) (fun k u=>k≤M.length∧findM M nm wl k=findM M nm wl M.length∧u=w) (fun k u=>k) M.length ⟨Nat.le_refl _,rfl,rfl⟩ ?_ ?_
 ·exact ⟨rfl,rfl,get_int rfl (by omega),trivial⟩
 rintro k u ⟨hk,hf,hu⟩
 obtain rfl:=hu.symm
 refine zz ?_
 refine zCp rfl (mkWall0_calls h hl) ?_
 rw [←hwl]
 cases k with
 |zero=>
  refine zz ?_
  exact zk_ret1 (.inr rfl) rfl rfl ⟨by rw [←hf];rfl,rfl⟩
 |succ k=>
  have e:findM M nm wl (k+1)=if k<wl then -1 else if (M.getD k mk0).nm=nm then (k:Int) else findM M nm wl k:=rfl
  by_cases hkw:k<wl
  ·refine zz ?_
   exact zk_ret1 (.inr rfl) rfl rfl ⟨by rw [←hf,e,if_pos hkw],rfl⟩
  rw [e,if_neg hkw] at hf
  obtain ⟨b,o,c',hv,e1,e2,e3⟩:=h.at_ k (by omega)
  rw [hv0] at hv
  cases hv
  obtain ⟨x,hx⟩: ∃x,x=(M.getD k mk0).nm:=⟨_,rfl⟩
  rw [←hx] at e2 hf
  refine zz ?_
  refine zL1 rfl (cell_at e2 (by omega)) (zP rfl ?_)
  refine zEq rfl rfl (fun hq=> ?_) (fun hq=> ?_)
  ·refine zz ?_
   rw [if_pos hq] at hf
   refine zk_ret1 (.inr rfl) rfl rfl ⟨?_,rfl⟩
   rw [←hf]
   simp
  ·refine zz ?_
   rw [if_neg hq] at hf
   exact zk_loopW k ⟨by omega,hf,rfl⟩ (by omega) ⟨rfl,rfl,get_int rfl (by omega),trivial⟩
theorem mkOf_calls (h:IsK w pm vm M) (hl:M.length≤1000000) (n:Int) (hn: ∃i,i<M.length∧(M.getD i mk0).n=n):Calls Tryz.prog 182 [.pointer (some ⟨pm,0,none⟩),.int .i64 n].toArray w fun e w'=>(∃j:Nat,e= .returned (.int .i64 (j:Nat)))∧w'=w:=by
 obtain ⟨A,c,hv0,hc⟩:=h.form
 have hb:=h.blk
 rw [hv0] at hb
 obtain ⟨i,hi,hin⟩:=hn
 refine zCz 26 Tryz.func182 ?_
 refine zz ?_
 refine zc_loopW (ι:=Nat) (fun k u=> [(0,.pointer (some ⟨pm,0,none⟩)),(1,.int .i64 n),(5,.int .i64 (k:Nat))]) (fun k u=>k≤i∧u=w) (fun k u=>i - k) 0 ⟨Nat.zero_le _,rfl⟩ ?_ ?_
 ·exact ⟨rfl,rfl,rfl,trivial⟩
 rintro k u ⟨hk,hu⟩
 obtain rfl:=hu.symm
 obtain ⟨b,o,c',hv,e1,e2,e3⟩:=h.at_ k (by omega)
 rw [hv0] at hv
 cases hv
 obtain ⟨x,hx⟩: ∃x,x=(M.getD k mk0).n:=⟨_,rfl⟩
 rw [←hx] at e1
 refine zz ?_
 by_cases hq:x=n
 ·refine zz ?_
  exact zk_ret1 (.inr rfl) rfl rfl ⟨⟨_,rfl⟩,rfl⟩
 ·have hki:k≠i:=fun he=>by subst he;exact hq (hx.trans hin)
  refine zz ?_
  exact zk_loopW (k+1) ⟨by omega,rfl⟩ (by omega) ⟨rfl,rfl,get_int rfl (by simp),trivial⟩
theorem mkPush_calls (h:IsK w pm vm M) (hl:M.length≤1000000) (x:MK) (hno: ∀j,wallK M M.length≤j→j<M.length→(M.getD j mk0).nm≠x.nm):Calls Tryz.prog 198 [.pointer (some ⟨pm,0,none⟩),.agg #[.int .i64 x.n,.string (bs x.nm),.slice x.A x.l x.c]].toArray w (MPost w pm (M++ [x]) (.tuple #[])):=by
 obtain ⟨A,c,hv0,hc⟩:=h.form
 obtain ⟨xn,xnm,xA,xl,xc⟩:=x
 dsimp only at hno ⊢
 obtain ⟨wl,hwl⟩: ∃wl,wl=wallK M M.length:=⟨_,rfl⟩
 rw [←hwl] at hno
 refine zCz 63 Tryz.func198 ?_
 refine zS (zR ?_)
 refine zBx rfl (fun w1 b1 hN1=> ?_)
 have hb3:Blk w1 b1 173 [.int .i64 xn,.string (bs xnm),.slice xA xl xc]:=hN1.blk
 have h1:=h.no hN1.chg
 have hb:=h1.blk
 have hK:=h1.row
 rw [hv0] at hb hK
 refine zz ?_
 refine zc_loopW (ι:=Nat) (fun k u=> [(0,.pointer (some ⟨pm,0,none⟩)),(3,.pointer (some ⟨b1,0,none⟩)),(5,.int .i64 0),(6,.int .i64 ((k:Nat) - 1:Int))]) (fun k u=>k≤M.length∧Chg w1 u No) (fun k u=>k) M.length ⟨Nat.le_refl _,Chg.refl _ _⟩ ?_ ?_
 ·exact ⟨rfl,rfl,rfl,get_int rfl (by omega),trivial⟩
 rintro k u ⟨hk,hu⟩
 have h2:=h1.no hu
 have hb2:=hb.no hu
 have hb32:=hb3.no hu
 refine zz ?_
 refine zCl rfl (mkWall0_calls h2 hl) ?_
 rintro _ u' ⟨rfl,hu'⟩
 obtain rfl:=hu'.symm
 refine ⟨_,rfl,?_⟩
 rw [←hwl]
 by_cases hkw:(k:Int) - 1≥wl
 ·obtain ⟨k,rfl⟩: ∃j,k=j+1:=⟨k - 1,by omega⟩
  obtain ⟨b,o,c',hv,e1,e2,e3⟩:=h2.at_ k (by omega)
  rw [hv0] at hv
  cases hv
  have hne:=hno k (by omega) (by omega)
  obtain ⟨y,hy⟩: ∃y,y=(M.getD k mk0).nm:=⟨_,rfl⟩
  rw [←hy] at e2 hne
  refine zz ?_
  refine zc_draw [] (fun w'=>Chg u w' No∧Blk w' pm 121 [.slice (some ⟨b,o,none⟩) M.length c]∧Blk w' b1 173 [.int .i64 xn,.string (bs xnm),.slice xA xl xc]) (.take 0 (.take 1 (.take 2 (.take 3 (.take 4 (.take 5 (.take 6 (.take 7 (.take 8 (.take 9 (.take 10 (.take 11 (.take 12 (.take 13 (.take 14 (.take 15 (.take 16 (.take 17 (.take 18 (.take 19 (.take 20 (.take 21 (.all1 22 (.take 23 (.fin))))))))))))))))))))))))) (by rfl) (by kernel_rfl) (by kernel_rfl) (fun u2 hC2 _=>⟨?_,?_⟩)
  ·exact ⟨hC2,hb2.no hC2,hb32.no hC2⟩
  refine zz ?_
  refine zRd rfl rfl (fun _ hS=>r_load1 rfl (cell_at (cell_no hS.1 e2) (by omega))) ?_
  refine zz ?_
  refine zRd rfl rfl (fun _ hS=>r_eqL (q:=false) rfl rfl (iff_of_false Bool.false_ne_true hne)) ?_
  refine zz ?_
  exact zk_loopW k ⟨by omega,hu.no hC2⟩ (by omega) ⟨rfl,rfl,rfl,get_int rfl (by omega),trivial⟩
 ·refine zz ?_
  have hKr:=hK.rd.no hu
  have hsz:w.heap.size≤u.heap.size:=(hN1.chg.no hu).size
  refine zc_draw [12] (fun w'=>Chg u w' No∧Blk w' pm 121 [.slice A M.length c]∧Blk w' b1 173 [.int .i64 xn,.string (bs xnm),.slice xA xl xc]) (.take 0 (.take 2 (.take 3 (.take 4 (.take 5 (.take 7 (.all2 1 (.all2 6 (.all1 8 (.all1 9 (.plain 10 (.take 11 (.last 12))))) 8 (.all1 6 (.all1 9 (.plain 10 (.take 11 (.last 12)))))) 8 (.all1 1 (.all1 6 (.all1 9 (.plain 10 (.take 11 (.last 12))))))))))))) (by rfl) (by kernel_rfl) (by kernel_rfl) (fun w5 hC5 _=>⟨?_,?_⟩)
  ·exact ⟨hC5,hb2.no hC5,hb32.no hC5⟩
  have fin: ∀{u':World} {v:Value},FM u.heap.size u' v (0+M.length+1) (([]++encK M)++encK [(⟨xn,xnm,xA,xl,xc⟩:MK)])→FM u.heap.size u' v (M++ [(⟨xn,xnm,xA,xl,xc⟩:MK)]).length (encK (M++ [(⟨xn,xnm,xA,xl,xc⟩:MK)])):=fun {u' v} hF=>by
   rw [List.nil_append,←encK_app] at hF
   rw [show (M++ [(⟨xn,xnm,xA,xl,xc⟩:MK)]).length=0+M.length+1 by simp]
   exact hF
  have done: ∀{u' u'':World} {v:Value},Chg u u' No→Upd u' u'' pm 121 [v]→FM u.heap.size u' v (0+M.length+1) (([]++encK M)++encK [(⟨xn,xnm,xA,xl,xc⟩:MK)])→MPost w pm (M++ [(⟨xn,xnm,xA,xl,xc⟩:MK)]) (.tuple #[]) (.returned (.tuple #[])) u'':=fun {u' u'' v} hC hU hF=>by
   obtain ⟨g1,g2,g3⟩:=h2.put hC hU (fin hF)
   exact ⟨rfl,_,g1,((hN1.chg.no hu).mono (fun _ _ h=>h.elim)).trans g2 (fun k _ hk=>hk),fun k hk=>by have:=g3 k hk;omega⟩
  refine zz ?_
  refine zs_two ?_ ?_
  ·refine zo_bs0 rfl (want_L rfl) (by decide) (fun w2 ca hMw2=> ?_)
   have hCw2:Chg u w2 No:=hC5.no hMw2.chg
   refine ⟨⟨hCw2,hb2.no hCw2,hb32.no hCw2⟩,?_⟩
   have hF:FM u.heap.size w2 (.slice (some ⟨ca,0,none⟩) 0 0) 0 []:=⟨Own.empty hMw2,fun k hk=>by simp only [Value.ownBlock,Option.some.injEq] at hk;have:=hMw2.at_;have:=hC5.size;omega⟩
   refine zs_two ?_ ?_
   ·refine zo_appendO rfl (by rfl) (by decide) (want_L rfl) (by decide) rfl rfl hF.1 (hKr.no hCw2) (by omega) (by omega) (fun vw3 w3 hOw3 hXw3 hrw3=> ?_)
    have hCw3:Chg u w3 No:=hF.ch hCw2 hXw3
    refine ⟨⟨hCw3,hb2.no hCw3,hb32.no hCw3⟩,?_⟩
    have hF:=hF.grow hCw2.size hOw3 hrw3
    obtain ⟨Aw3,cw3,hvw3,_⟩:=hF.1.rd.form
    subst hvw3
    refine zs_bs1 rfl (want_L rfl) (by decide) rfl (by rfl) (by rfl) (by decide) (by decide) (fun w4 cb hMw4=> ?_)
    have hCw4:Chg u w4 No:=hCw3.no hMw4.chg
    refine ⟨⟨hCw4,hb2.no hCw4,hb32.no hCw4⟩,?_⟩
    have hr1:RdS w4 173 3 (.slice (some ⟨cb,0,none⟩) 1 1) 1 (encK [(⟨xn,xnm,xA,xl,xc⟩:MK)]):=RdS.new hMw4 rfl (encK_one _)
    have hF:=hF.no hMw4.chg
    refine zs_appendO rfl (by rfl) (by decide) (want_L rfl) (by decide) rfl rfl hF.1 hr1 (by omega) (by omega) (fun vw5 w5 hOw5 hXw5 hrw5=> ?_)
    have hCw5:Chg u w5 No:=hF.ch hCw4 hXw5
    refine ⟨⟨hCw5,hb2.no hCw5,hb32.no hCw5⟩,?_⟩
    have hF:=hF.grow hCw4.size hOw5 hrw5
    obtain ⟨Aw5,cw5,hvw5,_⟩:=hF.1.rd.form
    subst hvw5
    have hb6:=hb2.no hCw5
    refine zz ?_
    refine zs_storeL rfl (want_L rfl) rfl rfl rfl (by assumption) (by first|exact Nat.le_refl _|simp [Value.cells]) (by simp [Value.cells,Value.oneCell']) (fun w7 hU7=> ?_)
    exact zk_ret0 (.inl rfl) rfl (done hCw5 hU7 hF)
   ·refine zo_bs1 rfl (want_L rfl) (by decide) rfl (by rfl) (by rfl) (by decide) (by decide) (fun w4 cb hMw4=> ?_)
    have hCw4:Chg u w4 No:=hCw2.no hMw4.chg
    refine ⟨⟨hCw4,hb2.no hCw4,hb32.no hCw4⟩,?_⟩
    have hr1:RdS w4 173 3 (.slice (some ⟨cb,0,none⟩) 1 1) 1 (encK [(⟨xn,xnm,xA,xl,xc⟩:MK)]):=RdS.new hMw4 rfl (encK_one _)
    have hF:=hF.no hMw4.chg
    refine zs_appendO rfl (by rfl) (by decide) (want_L rfl) (by decide) rfl rfl hF.1 (hKr.no hCw4) (by omega) (by omega) (fun vw3 w3 hOw3 hXw3 hrw3=> ?_)
    have hCw3:Chg u w3 No:=hF.ch hCw4 hXw3
    refine ⟨⟨hCw3,hb2.no hCw3,hb32.no hCw3⟩,?_⟩
    have hr1:=hF.rd hXw3 hr1 (fun k hk he=>by simp only [Value.ownBlock,Option.some.injEq] at hk he;have:=hMw4.at_;have:=hMw2.at_;have:=hMw2.size;omega)
    have hF:=hF.grow hCw4.size hOw3 hrw3
    obtain ⟨Aw3,cw3,hvw3,_⟩:=hF.1.rd.form
    subst hvw3
    refine zs_appendO rfl (by rfl) (by decide) (want_L rfl) (by decide) rfl rfl hF.1 hr1 (by omega) (by omega) (fun vw5 w5 hOw5 hXw5 hrw5=> ?_)
    have hCw5:Chg u w5 No:=hF.ch hCw3 hXw5
    refine ⟨⟨hCw5,hb2.no hCw5,hb32.no hCw5⟩,?_⟩
    have hF:=hF.grow hCw3.size hOw5 hrw5
    obtain ⟨Aw5,cw5,hvw5,_⟩:=hF.1.rd.form
    subst hvw5
    have hb6:=hb2.no hCw5
    refine zz ?_
    refine zs_storeL rfl (want_L rfl) rfl rfl rfl (by assumption) (by first|exact Nat.le_refl _|simp [Value.cells]) (by simp [Value.cells,Value.oneCell']) (fun w7 hU7=> ?_)
    exact zk_ret0 (.inl rfl) rfl (done hCw5 hU7 hF)
  ·refine zo_bs1 rfl (want_L rfl) (by decide) rfl (by rfl) (by rfl) (by decide) (by decide) (fun w4 cb hMw4=> ?_)
   have hCw4:Chg u w4 No:=hC5.no hMw4.chg
   refine ⟨⟨hCw4,hb2.no hCw4,hb32.no hCw4⟩,?_⟩
   have hr1:RdS w4 173 3 (.slice (some ⟨cb,0,none⟩) 1 1) 1 (encK [(⟨xn,xnm,xA,xl,xc⟩:MK)]):=RdS.new hMw4 rfl (encK_one _)
   refine zs_bs0 rfl (want_L rfl) (by decide) (fun w2 ca hMw2=> ?_)
   have hCw2:Chg u w2 No:=hCw4.no hMw2.chg
   refine ⟨⟨hCw2,hb2.no hCw2,hb32.no hCw2⟩,?_⟩
   have hF:FM u.heap.size w2 (.slice (some ⟨ca,0,none⟩) 0 0) 0 []:=⟨Own.empty hMw2,fun k hk=>by simp only [Value.ownBlock,Option.some.injEq] at hk;have:=hMw2.at_;have:=hCw4.size;omega⟩
   have hr1:=hr1.no hMw2.chg
   refine zs_appendO rfl (by rfl) (by decide) (want_L rfl) (by decide) rfl rfl hF.1 (hKr.no hCw2) (by omega) (by omega) (fun vw3 w3 hOw3 hXw3 hrw3=> ?_)
   have hCw3:Chg u w3 No:=hF.ch hCw2 hXw3
   refine ⟨⟨hCw3,hb2.no hCw3,hb32.no hCw3⟩,?_⟩
   have hr1:=hF.rd hXw3 hr1 (fun k hk he=>by simp only [Value.ownBlock,Option.some.injEq] at hk he;have:=hMw4.at_;have:=hMw2.at_;have:=hMw4.size;omega)
   have hF:=hF.grow hCw2.size hOw3 hrw3
   obtain ⟨Aw3,cw3,hvw3,_⟩:=hF.1.rd.form
   subst hvw3
   refine zs_appendO rfl (by rfl) (by decide) (want_L rfl) (by decide) rfl rfl hF.1 hr1 (by omega) (by omega) (fun vw5 w5 hOw5 hXw5 hrw5=> ?_)
   have hCw5:Chg u w5 No:=hF.ch hCw3 hXw5
   refine ⟨⟨hCw5,hb2.no hCw5,hb32.no hCw5⟩,?_⟩
   have hF:=hF.grow hCw3.size hOw5 hrw5
   obtain ⟨Aw5,cw5,hvw5,_⟩:=hF.1.rd.form
   subst hvw5
   have hb6:=hb2.no hCw5
   refine zz ?_
   refine zs_storeL rfl (want_L rfl) rfl rfl rfl (by assumption) (by first|exact Nat.le_refl _|simp [Value.cells]) (by simp [Value.cells,Value.oneCell']) (fun w7 hU7=> ?_)
   exact zk_ret0 (.inl rfl) rfl (done hCw5 hU7 hF)
end
end Go.Proofs.YtbcmiijollpgeaaGreat.D
namespace Go.Proofs.YtbcmiijollpgeaaGreat.B
open Go Go.Z Go.Proofs
def wFormat:List UInt8:= [97,32,98,32,98,105,103,32,99,111,100,101,32,101,109,32,102,111,110,116,32,105,32,110,111,98,114,32,115,32,115,109,97,108,108,32,115,116,114,105,107,101,32,115,116,114,111,110,103,32,116,116,32,117]
def wSpecial:List UInt8:= [97,100,100,114,101,115,115,32,97,112,112,108,101,116,32,97,114,101,97,32,97,114,116,105,99,108,101,32,97,115,105,100,101,32,98,97,115,101,32,98,97,115,101,102,111,110,116,32,98,103,115,111,117,110,100,32,98,108,111,99,107,113,117,111,116,101,32,98,111,100,121,32,98,114,32,98,117,116,116,111,110,32,99,97,112,116,105,111,110,32,99,101,110,116,101,114,32,99,111,108,32,99,111,108,103,114,111,117,112,32,100,100,32,100,101,116,97,105,108,115,32,100,105,97,108,111,103,32,100,105,114,32,100,105,118,32,100,108,32,100,116,32,101,109,98,101,100,32,102,105,101,108,100,115,101,116,32,102,105,103,99,97,112,116,105,111,110,32,102,105,103,117,114,101,32,102,111,111,116,101,114,32,102,111,114,109,32,102,114,97,109,101,32,102,114,97,109,101,115,101,116,32,104,49,32,104,50,32,104,51,32,104,52,32,104,53,32,104,54,32,104,101,97,100,32,104,101,97,100,101,114,32,104,103,114,111,117,112,32,104,114,32,104,116,109,108,32,105,102,114,97,109,101,32,105,109,103,32,105,110,112,117,116,32,107,101,121,103,101,110,32,108,105,32,108,105,110,107,32,108,105,115,116,105,110,103,32,109,97,105,110,32,109,97,114,113,117,101,101,32,109,101,110,117,32,109,101,116,97,32,110,97,118,32,110,111,101,109,98,101,100,32,110,111,102,114,97,109,101,115,32,110,111,115,99,114,105,112,116,32,111,98,106,101,99,116,32,111,108,32,112,32,112,97,114,97,109,32,112,108,97,105,110,116,101,120,116,32,112,114,101,32,115,99,114,105,112,116,32,115,101,97,114,99,104,32,115,101,99,116,105,111,110,32,115,101,108,101,99,116,32,115,111,117,114,99,101,32,115,116,121,108,101,32,115,117,109,109,97,114,121,32,116,97,98,108,101,32,116,98,111,100,121,32,116,100,32,116,101,109,112,108,97,116,101,32,116,101,120,116,97,114,101,97,32,116,102,111,111,116,32,116,104,32,116,104,101,97,100,32,116,105,116,108,101,32,116,114,32,116,114,97,99,107,32,117,108,32,119,98,114,32,120,109,112]
def wImply:List UInt8:= [100,100,32,100,116,32,108,105,32,111,112,116,103,114,111,117,112,32,111,112,116,105,111,110,32,112,32,114,98,32,114,112,32,114,116,32,114,116,99]
def wHeads:List UInt8:= [104,49,32,104,50,32,104,51,32,104,52,32,104,53,32,104,54]
def wBlocks:List UInt8:= [97,100,100,114,101,115,115,32,97,114,116,105,99,108,101,32,97,115,105,100,101,32,98,108,111,99,107,113,117,111,116,101,32,99,101,110,116,101,114,32,100,101,116,97,105,108,115,32,100,105,97,108,111,103,32,100,105,114,32,100,105,118,32,100,108,32,102,105,101,108,100,115,101,116,32,102,105,103,99,97,112,116,105,111,110,32,102,105,103,117,114,101,32,102,111,111,116,101,114,32,102,111,114,109,32,104,101,97,100,101,114,32,104,103,114,111,117,112,32,109,97,105,110,32,109,101,110,117,32,110,97,118,32,111,108,32,112,32,115,101,97,114,99,104,32,115,101,99,116,105,111,110,32,115,117,109,109,97,114,121,32,117,108]
abbrev wd (s:List UInt8):List (List UInt8):=T.wordsN [] s
def setW:Nat→List UInt8
 |2=>wFormat
 |3=>wSpecial
 |4=>wImply
 |5=>wHeads
 |6=>wBlocks
 |_=> []
theorem wordsN_few: ∀(l cur:List UInt8),(T.wordsN cur l).length≤l.length+1
 | [],cur=>by unfold T.wordsN;split<;>simp
 |c::r,cur=>by
  have h1:=wordsN_few r []
  have h2:=wordsN_few r (cur++ [c])
  unfold T.wordsN
  repeat' split
  all_goals simp only [List.length_cons]
  all_goals omega
theorem in_calls {w:World} (nm ws:List UInt8) (hw:ws.length≤1000):Calls Tryz.prog 117 [.string (bs nm),.string (bs ws)].toArray w fun e w'=>e= .returned (.bool (decide (nm∈wd ws)))∧Chg w w' No:=by
 refine zCz 9 Tryz.func117 ?_
 refine zz ?_
 refine zCl rfl (T.wordsR_calls (l:=ws) (by omega)) ?_
 rintro _ w1 ⟨v,rfl,hO,hC⟩
 refine ⟨_,rfl,?_⟩
 have hlen:(wd ws).length≤100000:=by have:(wd ws).length≤_:=wordsN_few ws [];omega
 refine zP rfl ?_
 refine zCp rfl (T.inR_calls (wd ws) nm hO.rd hlen) ?_
 refine zz ?_
 exact zk_ret1 (.inr rfl) rfl rfl ⟨rfl,hC⟩
theorem start1_calls {w:World} (nm tx ws:List UInt8) {A:Option Addr} {m c:Nat} (hw:ws.length≤1000):Calls Tryz.prog 86 [T.tokV 1 nm (.slice A m c) tx,.string (bs ws)].toArray w fun e w'=>e= .returned (.bool (decide (nm∈wd ws)))∧Chg w w' No:=by
 unfold T.tokV
 refine zCz 14 Tryz.func86 ?_
 refine zS (zR ?_)
 refine zBx rfl (fun w1 b hN=> ?_)
 have hb:Blk w1 b 66 [.int .i64 1,.string (bs nm),.slice A m c,.bool false,.string (bs tx)]:=hN.blk
 refine zz ?_
 refine zCr rfl (in_calls nm ws hw) fun w2 hC=> ?_
 refine zz ?_
 exact zk_ret1 (.inr rfl) rfl rfl ⟨rfl,hN.chg.no hC⟩
theorem start0_calls {w:World} (k:Int) (nm tx ws:List UInt8) {A:Option Addr} {m c:Nat} (hk:k≠1) (hw:ws.length≤1000):Calls Tryz.prog 86 [T.tokV k nm (.slice A m c) tx,.string (bs ws)].toArray w fun e w'=>e= .returned (.bool false)∧Chg w w' No:=by
 unfold T.tokV
 refine zCz 14 Tryz.func86 ?_
 refine zS (zR ?_)
 refine zBx rfl (fun w1 b hN=> ?_)
 have hb:Blk w1 b 66 [.int .i64 k,.string (bs nm),.slice A m c,.bool false,.string (bs tx)]:=hN.blk
 refine zz ?_
 exact zk_ret1 (.inr rfl) rfl rfl ⟨rfl,hN.chg⟩
theorem end1_calls {w:World} (nm tx ws:List UInt8) {A:Option Addr} {m c:Nat} (hw:ws.length≤1000):Calls Tryz.prog 119 [T.tokV 2 nm (.slice A m c) tx,.string (bs ws)].toArray w fun e w'=>e= .returned (.bool (decide (nm∈wd ws)))∧Chg w w' No:=by
 unfold T.tokV
 refine zCz 14 Tryz.func119 ?_
 refine zS (zR ?_)
 refine zBx rfl (fun w1 b hN=> ?_)
 have hb:Blk w1 b 66 [.int .i64 2,.string (bs nm),.slice A m c,.bool false,.string (bs tx)]:=hN.blk
 refine zz ?_
 refine zCr rfl (in_calls nm ws hw) fun w2 hC=> ?_
 refine zz ?_
 exact zk_ret1 (.inr rfl) rfl rfl ⟨rfl,hN.chg.no hC⟩
theorem end0_calls {w:World} (k:Int) (nm tx ws:List UInt8) {A:Option Addr} {m c:Nat} (hk:k≠2) (hw:ws.length≤1000):Calls Tryz.prog 119 [T.tokV k nm (.slice A m c) tx,.string (bs ws)].toArray w fun e w'=>e= .returned (.bool false)∧Chg w w' No:=by
 unfold T.tokV
 refine zCz 14 Tryz.func119 ?_
 refine zS (zR ?_)
 refine zBx rfl (fun w1 b hN=> ?_)
 have hb:Blk w1 b 66 [.int .i64 k,.string (bs nm),.slice A m c,.bool false,.string (bs tx)]:=hN.blk
 refine zz ?_
 exact zk_ret1 (.inr rfl) rfl rfl ⟨rfl,hN.chg⟩
theorem words_calls {w:World} (k:Nat) (h2:2≤k) (h6:k≤6):Calls Tryz.prog 175 [.int .i64 (k:Nat)].toArray w fun e w'=>e= .returned (.string (bs (setW k)))∧w'=w:=by
 obtain rfl|rfl|rfl|rfl|rfl:k=2∨k=3∨k=4∨k=5∨k=6:=by omega
 ·refine zCz 22 Tryz.func175 ?_
  refine zz ?_
  exact zk_ret1 (.inr rfl) rfl rfl ⟨by kernel_rfl,rfl⟩
 ·refine zCz 22 Tryz.func175 ?_
  refine zz ?_
  exact zk_ret1 (.inr rfl) rfl rfl ⟨by kernel_rfl,rfl⟩
 ·refine zCz 22 Tryz.func175 ?_
  refine zz ?_
  exact zk_ret1 (.inr rfl) rfl rfl ⟨by kernel_rfl,rfl⟩
 ·refine zCz 22 Tryz.func175 ?_
  refine zz ?_
  exact zk_ret1 (.inr rfl) rfl rfl ⟨by kernel_rfl,rfl⟩
 ·refine zCz 22 Tryz.func175 ?_
  refine zz ?_
  exact zk_ret1 (.inr rfl) rfl rfl ⟨by kernel_rfl,rfl⟩
theorem set_calls {w:World} (k:Nat) (h2:2≤k) (h6:k≤6):Calls Tryz.prog 147 [.int .i64 (k:Nat)].toArray w fun e w'=>(∃A c,e= .returned (.slice A (wd (setW k)).length c)∧RdS w' 9 1 (.slice A (wd (setW k)).length c) (wd (setW k)).length (T.cellsS (wd (setW k))))∧Chg w w' No:=by
 have hl:(setW k).length≤1000:=by
  obtain rfl|rfl|rfl|rfl|rfl:k=2∨k=3∨k=4∨k=5∨k=6:=by omega
  all_goals decide+kernel
 refine zCz 6 Tryz.func147 ?_
 refine zz ?_
 refine zCp rfl (words_calls k h2 h6) ?_
 refine zCl rfl (T.wordsR_calls (l:=setW k) (by omega)) ?_
 rintro _ w1 ⟨v,rfl,hO,hC⟩
 refine ⟨_,rfl,?_⟩
 obtain ⟨A,c,rfl,_⟩:=RdS.form hO.rd
 refine zz ?_
 exact zk_ret1 (.inr rfl) rfl rfl ⟨⟨A,c,rfl,hO.rd⟩,hC⟩
theorem has_calls {w:World} (k:Nat) (nm:List UInt8) (h2:2≤k) (h6:k≤6):Calls Tryz.prog 118 [.int .i64 (k:Nat),.string (bs nm)].toArray w fun e w'=>e= .returned (.bool (decide (nm∈wd (setW k))))∧Chg w w' No:=by
 have hl:(wd (setW k)).length≤100000:=by
  obtain rfl|rfl|rfl|rfl|rfl:k=2∨k=3∨k=4∨k=5∨k=6:=by omega
  all_goals decide+kernel
 refine zCz 9 Tryz.func118 ?_
 refine zz ?_
 refine zCl rfl (set_calls k h2 h6) ?_
 rintro _ w1 ⟨⟨A,c,rfl,hO⟩,hC⟩
 refine ⟨_,rfl,?_⟩
 refine zP rfl ?_
 refine zCp rfl (T.inR_calls (wd (setW k)) nm hO hl) ?_
 refine zz ?_
 exact zk_ret1 (.inr rfl) rfl rfl ⟨rfl,hC⟩
end Go.Proofs.YtbcmiijollpgeaaGreat.B
namespace Go.Z
open Go
theorem z_cutTo {P:Program} {n:Nat} {e:Env} {w:World} {Q:Exit→Act→World→Prop} {ops:Array Oper} {rest:List Oper} {d:Tmp} {ty:TypeId} {pos:String} {aft:Array Edge} {g:Option (Nat×Bool)} {B:Option Addr} {m c s j k:Nat} {z:Value} {x:Operand} {hi:Option Operand} {t el:TypeId} [hu:Und P t (.slice el)] [hz:Inf P el s j z]
  (hw:Want ops e g) (hdn:d<n) (hB:Flat B) (hx:ev e x=some (.slice B m c)) (hh:optI hi e m=some (k:Int)) (hc:k≤c) (h:ZL P n ops rest ((d,.slice B k c)::e) w Q):ZL P n ops (⟨some d,.slice t x none hi none,ty,pos,aft,g⟩::rest) e w Q:=
 zl_run hw rfl hdn (r_cutTo hB hx hh hc) h
end Go.Z
namespace Go.Proofs.YtbcmiijollpgeaaGreat.D
open Go Go.Z Go.Proofs
section
variable {w w' w0 w1 w2 : World} {t : Nat} {r r' r1 : TP} {N N' : List ND} {L L' : List Nat} {S : Nat → Prop} {ns : List (List UInt8)}
theorem rsPlace2_calls (h:IsT w t r N L) (hl:L.length≤1000000) (j:Nat) (hj:j<L.length) (hd: ∀k,k<j→L.getD k 0≠L.getD j 0):Calls Tryz.prog 115 [.pointer (some ⟨t,0,none⟩),.int .i64 (L.getD j 0:Nat)].toArray w fun e w'=>e= .returned (.int .i64 (j:Nat))∧w'=w:=by
 have hb:=h.blk
 obtain ⟨A,c,hv,hc⟩:=h.row.rd.form
 rw [hv] at hb
 refine zCz 25 Tryz.func115 ?_
 refine zz ?_
 refine zc_loopW (ι:=Nat) (fun k u=> [(0,.pointer (some ⟨t,0,none⟩)),(1,.int .i64 (L.getD j 0:Nat)),(5,.int .i64 (k:Nat))]) (fun k u=>k≤j∧u=w) (fun k u=>j - k) 0 ⟨Nat.zero_le _,rfl⟩ ?_ ?_
 ·exact ⟨rfl,rfl,rfl,trivial⟩
 rintro k u ⟨hk,hu⟩
 obtain rfl:=hu.symm
 obtain ⟨b,o,c',hv',_,hcc⟩:=RdS.some h.row.rd (by omega)
 rw [hv] at hv'
 cases hv'
 have hcell:=hcc k _ (intC_get L k (by omega))
 by_cases hlt:k<j
 ·have hne:=hd k hlt
  refine zz ?_
  refine zL1 rfl (cell_at hcell (by omega)) (zz ?_)
  refine zk_loopW (k+1) ⟨by omega,rfl⟩ (by omega) ⟨rfl,rfl,get_int rfl (by simp),trivial⟩
 ·obtain rfl:k=j:=by omega
  refine zz ?_
  refine zL1 rfl (cell_at hcell (by omega)) (zz ?_)
  exact zk_ret1 (.inr rfl) rfl rfl ⟨rfl,rfl⟩
theorem intC_take (L:List Nat) (k:Nat):(intC L).take (k*1)=intC (L.take k):=by unfold intC;rw [Nat.mul_one,List.map_take]
theorem intC_drop (L:List Nat) (k:Nat):(intC L).drop (k*1)=intC (L.drop k):=by unfold intC;rw [Nat.mul_one,List.map_drop]
theorem rsDrop_calls (h:IsT w t r N L) (hl:L.length≤1000000) (j:Nat) (hj:j<L.length) (h1:1≤j) (hd: ∀k,k<j→L.getD k 0≠L.getD j 0):
  Calls Tryz.prog 81 [.pointer (some ⟨t,0,none⟩),.int .i64 (L.getD j 0:Nat)].toArray w fun e w'=>e= .returned (.bool true)∧ ∃v,IsT w' t {r with vrow:=v} N (L.take j++L.drop (j+1))∧WrT w w' t r {r with vrow:=v}:=by
 obtain ⟨Ar,cr,hv,hc⟩:=h.row.rd.form
 have hb:=h.blk
 have hK:=h.row
 rw [hv] at hb hK
 refine zCz 30 Tryz.func81 ?_
 refine zz ?_
 refine zCp rfl (rsPlace2_calls h hl j hj hd) ?_
 refine zz ?_
 refine zc_draw [19] (fun w'=>Chg w w' No∧Blk w' t 74 [.pointer (some ⟨r.pd,0,none⟩),.pointer (some ⟨r.pm,0,none⟩),.slice Ar L.length cr,.bool false]) (.take 0 (.take 2 (.take 3 (.take 4 (.take 5 (.take 6 (.take 7 (.take 9 (.take 10 (.take 11 (.take 12 (.take 13 (.take 14 (.take 15 (.all1 1 (.all1 8 (.all1 16 (.plain 17 (.take 18 (.last 19)))))))))))))))))))) (by rfl) (by kernel_rfl) (by kernel_rfl) (fun w1 hC1 _=>⟨?_,?_⟩)
 ·exact ⟨hC1,hb.no hC1⟩
 refine zz ?_
 refine zRd rfl rfl (fun _ hS=>r_cutTo (k:=j) hK.flat rfl rfl (by omega)) ?_
 refine zz ?_
 refine zRd rfl rfl (fun _ hS=>r_cutFrom (k:=j+1) rfl (by show some _=_;simp) (by omega) (by omega)) ?_
 refine zs_bs0 rfl (want_L rfl) (by decide) (fun w2 ca hMw2=> ?_)
 have hCw2:Chg w w2 No:=hC1.no hMw2.chg
 refine ⟨⟨hCw2,hb.no hCw2⟩,?_⟩
 have hF:FO w.heap.size w2 (.slice (some ⟨ca,0,none⟩) 0 0) 0 []:=⟨Own.empty hMw2,fun k hk=>by simp only [Value.ownBlock,Option.some.injEq] at hk;have:=hMw2.at_;have:=hC1.size;omega⟩
 refine zs_appendO rfl (by rfl) (by decide) (want_L rfl) (by decide) rfl rfl hF.1 ((hK.take j (by omega)).rd.no hCw2) (by omega) (by omega) (fun vw3 w3 hOw3 hXw3 hrw3=> ?_)
 have hCw3:Chg w w3 No:=hF.ch hCw2 hXw3
 refine ⟨⟨hCw3,hb.no hCw3⟩,?_⟩
 have hF:=hF.grow hCw2.size hOw3 hrw3
 obtain ⟨Aw3,cw3,hvw3,_⟩:=hF.1.rd.form
 subst hvw3
 refine zs_appendO rfl (by rfl) (by decide) (want_L rfl) (by decide) rfl rfl hF.1 ((RdS.cut hK.rd (k:=j+1) (by omega)).no hCw3) (by omega) (by omega) (fun vw4 w4 hOw4 hXw4 hrw4=> ?_)
 have hCw4:Chg w w4 No:=hF.ch hCw3 hXw4
 refine ⟨⟨hCw4,hb.no hCw4⟩,?_⟩
 have hF:=hF.grow hCw3.size hOw4 hrw4
 obtain ⟨Aw4,cw4,hvw4,_⟩:=hF.1.rd.form
 subst hvw4
 have hb3:=hb.no hCw4
 have hO:Own w4 3 1 (.slice Aw4 (0+j+(L.length - (j+1))) cw4) (L.take j++L.drop (j+1)).length (intC (L.take j++L.drop (j+1))):=by
  have e:=hF.1
  rw [List.nil_append,intC_take,intC_drop,←intC_app] at e
  rw [show (L.take j++L.drop (j+1)).length=0+j+(L.length - (j+1)) by rw [List.length_append,List.length_take,List.length_drop];omega]
  exact e
 refine zz ?_
 refine zs_storeL rfl (want_L rfl) rfl rfl rfl (by assumption) (by first|exact Nat.le_refl _|simp [Value.cells]) (by simp [Value.cells,Value.oneCell']) (fun w5 hU5=> ?_)
 refine zz ?_
 exact zk_ret1 (.inr rfl) rfl rfl ⟨rfl,_,(h.no hCw4).rowW hU5 hO hF.2 hCw4 h⟩
theorem nodup_lt {L:List Nat} (h:L.Nodup) {k j:Nat} (hk:k<j) (hj:j<L.length):L.getD k 0≠L.getD j 0:=fun he=>by
 have:=(List.getD_inj (by omega) hj h).1 he
 omega
theorem rsPop_calls (h:IsT w t r N L) (hl:L.length≤1000000) (hL:2≤L.length) (hnd:L.Nodup):
  Calls Tryz.prog 49 [.pointer (some ⟨t,0,none⟩)].toArray w fun e w'=>e= .returned (.bool true)∧ ∃v,IsT w' t {r with vrow:=v} N (L.take (L.length - 1))∧WrT w w' t r {r with vrow:=v}:=by
 have hb:=h.blk
 refine zCz 7 Tryz.func49 ?_
 refine zz ?_
 refine zCr rfl (rsTop_calls h (by omega) hl) fun w1 hC1=> ?_
 refine zCl rfl (rsDrop_calls (h.no hC1) hl (L.length - 1) (by omega) (by omega) (fun k hk=>nodup_lt hnd hk (by omega))) ?_
 rintro _ w2 ⟨rfl,v,h2,hW2⟩
 refine ⟨_,rfl,?_⟩
 rw [List.drop_of_length_le (by omega),List.append_nil] at h2
 refine zz ?_
 exact zk_ret1 (.inr rfl) rfl rfl ⟨rfl,v,h2,(WrT.of_no hC1 _ _).trans hW2⟩
theorem rsPopTo_calls (h:IsT w t r N L) (hR:RowN N L ns) (hL:0<L.length) (hLl:L.length≤1000000) {v:Value} {l:List (List UInt8)} (hN:RdS w 9 1 v l.length (T.cellsS l)) (hl:l.length≤100000) (j:Nat) (hj:j<L.length) (hlast:lastI l ns L.length=(j:Nat)):
  Calls Tryz.prog 130 [.pointer (some ⟨t,0,none⟩),v].toArray w fun e w'=>e= .returned (.bool true)∧ ∃v,IsT w' t {r with vrow:=v} N (L.take j)∧WrT w w' t r {r with vrow:=v}:=by
 obtain ⟨A,c,rfl,hc0⟩:=hN.form
 refine zCz 22 Tryz.func130 ?_
 refine zz ?_
 refine zCr rfl (rsLast_calls h hR hL hLl hN hl) fun w1 hC1=> ?_
 rw [hlast]
 have h1:=h.no hC1
 obtain ⟨Ar,cr,hv,hc⟩:=h1.row.rd.form
 have hb:=h1.blk
 have hK:=h1.row
 rw [hv] at hb hK
 refine zz ?_
 refine z_bs0 (want_L rfl) (by decide) (fun w2 ca hMw2=> ?_)
 have hCw2:Chg w1 w2 No:=hMw2.chg
 have hF:FO w1.heap.size w2 (.slice (some ⟨ca,0,none⟩) 0 0) 0 []:=⟨Own.empty hMw2,fun k hk=>by simp only [Value.ownBlock,Option.some.injEq] at hk;have:=hMw2.at_;omega⟩
 have hb2:=hb.no hCw2
 refine zz ?_
 refine z_cutTo (k:=j) (want_L rfl) (by decide) hK.flat rfl rfl (by omega) ?_
 refine z_appendO (by rfl) (by decide) (want_L rfl) (by decide) rfl rfl hF.1 ((hK.take j (by omega)).rd.no hCw2) (by omega) (by omega) (fun vw3 w3 hOw3 hXw3 hrw3=> ?_)
 have hCw3:Chg w1 w3 No:=hF.ch hCw2 hXw3
 have hF:=hF.grow hCw2.size hOw3 hrw3
 obtain ⟨Aw3,cw3,hvw3,_⟩:=hF.1.rd.form
 subst hvw3
 have hb3:=hb.no hCw3
 have hO:Own w3 3 1 (.slice Aw3 (0+j) cw3) (L.take j).length (intC (L.take j)):=by
  have e:=hF.1
  rw [List.nil_append,intC_take] at e
  rw [show (L.take j).length=0+j by rw [List.length_take];omega]
  exact e
 refine zP rfl (zfa rfl ?_)
 refine z_store (want_L rfl) rfl rfl rfl (by assumption) (by first|exact Nat.le_refl _|simp [Value.cells]) (by simp [Value.cells,Value.oneCell']) (fun w5 hU5=> ?_)
 refine zz ?_
 obtain ⟨g1,g2⟩:=(h1.no hCw3).rowW hU5 hO hF.2 hCw3 h1
 exact zk_ret1 (.inr rfl) rfl rfl ⟨rfl,_,g1,(WrT.of_no hC1 _ _).trans g2⟩
end
structure FE where
 nm:List UInt8
 al:List T.At
 done:NT
def FE.ft (f:FE):FT:=⟨elemH f.nm f.al,f.done⟩
structure SQ where
 r:TP
 vm:Value
 M:List MK
def ftS (t:Nat) (q:SQ) (k:Nat):Prop:=footT t q.r k∨k=q.r.pm∨q.vm.ownBlock=some k
structure IsS (w:World) (t:Nat) (q:SQ) (N:List ND) (R:List Nat) (fr:List FE):Prop where
 site:IsT w t q.r N R.reverse
 mar:IsK w q.r.pm q.vm q.M
 wf:WF N
 zf:ZF N [] R (fr.map FE.ft) N.length
 big: ∀i,(N.getD i n0).text.length≤1000000000
structure WrS (w w':World) (t:Nat) (q q':SQ):Prop where
 chg:Chg w w' (ftS t q)
 ft: ∀k,ftS t q' k→ftS t q k∨w.heap.size≤k
def Keep (l:List Nat) (w w':World):Prop:=w.heap.size≤w'.heap.size∧ ∀b ty cs,Blk w b ty cs→ty∉l→Blk w' b ty cs
def sT:List Nat:= [106,80,3,22,74,121,173]
def bT:List Nat:= [106,80,3,22,74,121,173,64]
section
variable {w w' w0 w1 w2 : World} {t : Nat} {q q' q1 : SQ} {N N' : List ND} {R R' : List Nat} {fr fr' : List FE} {l : List Nat}
theorem RdS.keep {ty sz m:Nat} {v:Value} {cs:List Value} (h:RdS w ty sz v m cs) (hk:Keep l w w') (hn:ty∉l):RdS w' ty sz v m cs:=by
 obtain ⟨h1,h2,A,c,h3,h4,h5⟩:=h
 refine ⟨h1,h2,A,c,h3,h4,fun hm=> ?_⟩
 obtain ⟨b,o,cells,h6,h7,h8⟩:=h5 hm
 exact ⟨b,o,cells,h6,hk.2 _ _ _ h7 hn,h8⟩
theorem AttrS.keepB {v:Value} {al:List At} (h:AttrS w v al) (hk:Keep bT w w'):AttrS w' v al:=RdS.keep h hk (by decide)
theorem IsS.noT (h:IsS w t q N R fr) {b ty:Nat} {cs:List Value} (hb:Blk w b ty cs) (hn:ty∉sT): ¬ftS t q b:=by
 simp only [sT,List.mem_cons,List.not_mem_nil,or_false,not_or] at hn
 obtain ⟨h1,h2,h3,h4,h5,h6,h7⟩:=hn
 rintro (hk|hk|hk)
 ·exact h.site.noT hb h1 h2 h3 h4 h5 hk
 ·exact hb.ne h.mar.blk h6 hk
 ·exact h.mar.row.ne hk hb (Ne.symm h7) rfl
theorem WrS.keep (h:IsS w t q N R fr) (hW:WrS w w' t q q'):Keep sT w w':=⟨hW.chg.size,fun b ty cs hb hn=>hb.chg hW.chg (h.noT hb hn)⟩
theorem IsS.no (h:IsS w t q N R fr) (hc:Chg w w' No):IsS w' t q N R fr:=⟨h.site.no hc,h.mar.no hc,h.wf,h.zf,h.big⟩
theorem WrS.of_no (hc:Chg w w' No) (t:Nat) (q:SQ):WrS w w' t q q:=⟨hc.mono (fun _ _ h=>h.elim),fun _ h=> .inl h⟩
theorem WrS.trans (h:WrS w w1 t q q1) (k:WrS w1 w2 t q1 q'):WrS w w2 t q q':=by
 refine ⟨h.chg.trans k.chg (fun i hi hf=> ?_),fun i hf=> ?_⟩
 ·rcases h.ft i hf with h1|h1
  ·exact h1
  ·omega
 ·rcases k.ft i hf with h1|h1
  ·exact h.ft i h1
  ·exact .inr (Nat.le_trans h.chg.size h1)
theorem IsS.siteW (h:IsS w t q N R fr) {r':TP} (hS:IsT w' t r' N' R'.reverse) (hW:WrT w w' t q.r r') (hpm:r'.pm=q.r.pm) (hwf:WF N') (hzf:ZF N' [] R' (fr'.map FE.ft) N'.length) (hbig: ∀i,(N'.getD i n0).text.length≤1000000000):
  IsS w' t {q with r:=r'} N' R' fr'∧WrS w w' t q {q with r:=r'}:=by
 have hk: ∀{b ty:Nat} {cs:List Value},Blk w b ty cs→ty=121∨ty=173→ ¬footT t q.r b:=fun hb he=>by
  rcases he with rfl|rfl
  ·exact h.site.noT hb (by decide) (by decide) (by decide) (by decide) (by decide)
  ·exact h.site.noT hb (by decide) (by decide) (by decide) (by decide) (by decide)
 refine ⟨⟨hS,?_,hwf,hzf,hbig⟩,⟨hW.chg.mono (fun k _ hk=> .inl hk),?_⟩⟩
 ·refine ⟨?_,h.mar.row.chg hW.chg fun k hk2 hf=>by obtain ⟨cs,hb⟩:=h.mar.row.blk hk2;exact hk hb (.inr rfl) hf⟩
  show Blk w' r'.pm 121 [q.vm]
  rw [hpm]
  exact h.mar.blk.chg hW.chg (hk h.mar.blk (.inl rfl))
 ·rintro k (hk|hk|hk)
  ·exact (hW.ft k hk).imp (fun h=> .inl h) id
  ·exact .inl (.inr (.inl (hk.trans hpm)))
  ·exact .inl (.inr (.inr hk))
theorem IsS.mkW (h:IsS w t q N R fr) {v:Value} {M':List MK} (hK:IsK w' q.r.pm v M') (hC:Chg w w' (· =q.r.pm)) (hn: ∀k,v.ownBlock=some k→w.heap.size≤k):
  IsS w' t {q with vm:=v,M:=M'} N R fr∧WrS w w' t q {q with vm:=v,M:=M'}:=by
 refine ⟨⟨h.site.chg hC (fun k hk he=> ?_) (fun b cells hb he=> ?_),hK,h.wf,h.zf,h.big⟩,⟨hC.mono (fun k _ hk=> .inr (.inl hk)),?_⟩⟩
 ·exact h.site.noT (ty:=121) (cs:= [q.vm]) (he▸h.mar.blk) (by decide) (by decide) (by decide) (by decide) (by decide) hk
 ·exact absurd (hb.inj (he▸h.mar.blk)).1 (by decide)
 ·rintro k (hk|hk|hk)
  ·exact .inl (.inl hk)
  ·exact .inl (.inr (.inl hk))
  ·exact .inr (hn k hk)
theorem rev_getD (R:List Nat) (i:Nat) (h:i<R.length):R.reverse.getD i 0=R.getD (R.length - 1 - i) 0:=by
 rw [List.getD_eq_getElem?_getD,List.getD_eq_getElem?_getD,List.getElem?_reverse h]
theorem rev_getN (R:List (List UInt8)) (i:Nat) (h:i<R.length):R.reverse.getD i []=R.getD (R.length - 1 - i) []:=by
 rw [List.getD_eq_getElem?_getD,List.getD_eq_getElem?_getD,List.getElem?_reverse h]
def nmsF (fr:List FE):List (List UInt8):=(fr.map FE.nm).reverse
theorem IsS.len (h:IsS w t q N R fr):R.length=fr.length∧R.length≤N.length:=by
 have:=h.zf.len
 rw [List.length_map] at this
 exact this
theorem IsS.rowN (h:IsS w t q N R fr):RowN N R.reverse (nmsF fr):=by
 have hl:=h.len.1
 refine ⟨by simp [nmsF,hl],fun i hi=> ?_,fun i h0 hi=> ?_,fun i hi=> ?_⟩
 ·rw [List.length_reverse] at hi
  rw [rev_getD _ _ hi]
  exact h.zf.lt _ (getD_mem (by omega))
 ·rw [List.length_reverse] at hi
  rw [rev_getD _ _ hi]
  exact h.zf.pos _ (by omega)
 ·rw [List.length_reverse] at hi
  rw [rev_getD _ _ hi]
  obtain ⟨f,h1,h2⟩:=h.zf.hdAt (R.length - 1 - i) (by omega)
  rw [List.getElem?_map] at h1
  cases h3:fr[R.length - 1 - i]? with
  |none=>rw [h3] at h1;cases h1
  |some g=>
   rw [h3] at h1
   cases h1
   refine ⟨g.al,h2.trans ?_⟩
   have:(nmsF fr).getD i []=g.nm:=by
    unfold nmsF
    rw [rev_getN _ _ (by rw [List.length_map];omega),List.length_map,List.getD_eq_getElem?_getD,List.getElem?_map,←hl,h3];rfl
   rw [this];rfl
theorem IsS.pos (h:IsS w t q N R fr) (hf:fr≠ []):0<R.reverse.length:=by
 rw [List.length_reverse,h.len.1];exact List.length_pos_iff.mpr hf
def lastF (l:List (List UInt8)):List FE→Int
 | []=> -1
 | [_]=> -1
 |f::g::fr=>if f.nm∈l then ((fr.length+1:Nat):Int) else lastF l (g::fr)
def lastN (l:List (List UInt8)):List FE→List UInt8
 | []=> []
 | [_]=> []
 |f::g::fr=>if f.nm∈l then f.nm else lastN l (g::fr)
theorem lastI_app (l ns:List (List UInt8)) (x:List UInt8): ∀k,k≤ns.length→lastI l (ns++ [x]) k=lastI l ns k
 |0,_=>rfl
 |k+1,h=>by
  have e:(ns++ [x]).getD k []=ns.getD k []:=by
   rw [List.getD_eq_getElem?_getD,List.getD_eq_getElem?_getD,List.getElem?_append_left (by omega)]
  unfold lastI
  rw [e,lastI_app l ns x k (by omega)]
theorem nmsF_cons (f:FE) (fr:List FE):nmsF (f::fr)=nmsF fr++ [f.nm]:=by simp [nmsF]
theorem nmsF_len (fr:List FE):(nmsF fr).length=fr.length:=by simp [nmsF]
theorem nmsF_top (f:FE) (fr:List FE):(nmsF (f::fr)).getD fr.length []=f.nm:=by
 rw [nmsF_cons,List.getD_eq_getElem?_getD,List.getElem?_append_right (by rw [nmsF_len];exact Nat.le_refl _),nmsF_len,Nat.sub_self];rfl
theorem lastI_eq (l:List (List UInt8)): ∀fr:List FE,lastI l (nmsF fr) fr.length=lastF l fr
 | []=>rfl
 | [f]=>rfl
 |f::g::fr=>by
  have ih:=lastI_eq l (g::fr)
  show (if (g::fr).length=0 then -1 else if (nmsF (f::g::fr)).getD (g::fr).length []∈l then (((g::fr).length:Nat):Int) else lastI l (nmsF (f::g::fr)) (g::fr).length)=_
  rw [if_neg (by simp),nmsF_top,nmsF_cons,lastI_app l _ _ _ (by rw [nmsF_len];exact Nat.le_refl _),ih]
  rfl
theorem lastF_cases (l:List (List UInt8)): ∀fr:List FE,(lastF l fr= -1∧lastN l fr= [])∨ ∃j:Nat,lastF l fr=(j:Nat)∧0<j∧j<fr.length∧(nmsF fr).getD j []=lastN l fr∧lastN l fr∈l
 | []=> .inl ⟨rfl,rfl⟩
 | [f]=> .inl ⟨rfl,rfl⟩
 |f::g::fr=>by
  unfold lastF lastN
  by_cases hm:f.nm∈l
  ·rw [if_pos hm,if_pos hm]
   exact .inr ⟨fr.length+1,rfl,by omega,by simp,nmsF_top f (g::fr),hm⟩
  ·rw [if_neg hm,if_neg hm]
   rcases lastF_cases l (g::fr) with h|⟨j,h1,h2,h3,h4,h5⟩
   ·exact .inl h
   ·refine .inr ⟨j,h1,h2,by simp only [List.length_cons] at h3 ⊢;omega,?_,h5⟩
    rw [nmsF_cons,List.getD_eq_getElem?_getD,List.getElem?_append_left (by rw [nmsF_len];exact h3),←List.getD_eq_getElem?_getD]
    exact h4
end
def SPost (w:World) (t:Nat) (q:SQ) (R:List Nat) (fr:List FE) (M:List MK) (n:Nat) (x:Value) (e:Ending) (w':World):Prop:=e= .returned x∧ ∃q' N',IsS w' t q' N' R fr∧WrS w w' t q q'∧q'.M=M∧N'.length≤n
section
variable {w w' w0 w1 w2 : World} {t : Nat} {q q' q1 : SQ} {N N' : List ND} {n : Nat} {R R' : List Nat} {f g : FE} {fr fr' : List FE} {l : List Nat}
theorem rev_top (n:Nat) (R:List Nat):(n::R).reverse.getD ((n::R).reverse.length - 1) 0=n:=by
 rw [rev_getD _ _ (by simp),List.length_reverse,Nat.sub_self];rfl
theorem sTop_calls (h:IsS w t q N (n::R) fr) (hl:fr.length≤1000):Calls Tryz.prog 46 [.pointer (some ⟨t,0,none⟩)].toArray w fun e w'=>e= .returned (.int .i64 (n:Nat))∧Chg w w' No:=by
 have h1:=h.len.1
 refine (rsTop_calls h.site (by simp) (by rw [List.length_reverse];omega)).mono fun e w' hh=> ?_
 rw [rev_top] at hh
 exact hh
theorem sAdd_calls (h:IsS w t q N (n::R) (f::fr)) (hf:fr.length≤998) (hl:N.length≤2000000) (nm:List UInt8) (al:List T.At) {va:Value} (ha:AttrS w va (encT al)) (hal:al.length≤1000000):
  Calls Tryz.prog 88 [.pointer (some ⟨t,0,none⟩),.int .i64 1,.string (bs nm),va].toArray w (SPost w t q (N.length::n::R) (⟨nm,al,.nil⟩::f::fr) q.M (N.length+1) (.int .i64 N.length)):=by
 have hb:=h.site.blk
 have hlen:=h.len.1
 have hnN:n<N.length:=h.zf.lt n (by simp)
 have hp:=h.wf.pos
 obtain ⟨A0,c0,hv0,_⟩:=ha.form
 obtain ⟨x,hx⟩: ∃x:ND,x=⟨1,1,bs nm,encT al,[], -1,[]⟩:=⟨_,rfl⟩
 have hWF:WF (N++ [x]):=h.wf.add (by rw [hx]) (by rw [hx])
 have hxn:(N++ [x]).getD n n0=N.getD n n0:=by rw [getD_add,if_neg (by omega)]
 have hxl:(N++ [x]).getD N.length n0=x:=by rw [getD_add,if_pos rfl]
 have hkind:(N.getD n n0).kind=1:=congrArg Hd.kind h.zf.1
 have hna: ¬Anc (N++ [x]) n N.length:=fun ha=>by
  have:=Anc.fresh hWF (n:=n) (top:=N.length) (by simp;omega) (by rw [hxl,hx]) ha
  omega
 have hput:PutOk (N++ [x]) (N.length:Nat) (n:Nat) (-1):=by
  refine ⟨⟨by omega,by simp;omega⟩,⟨by omega,by simp;omega⟩,?_,by omega,?_,hna,?_⟩
  ·show ((N++ [x]).getD n n0).kind=1
   rw [hxn];exact hkind
  ·show ((N++ [x]).getD N.length n0).up<0
   rw [hxl,hx];show (-1:Int)<0;omega
  ·unfold placeN;rw [if_pos rfl];rfl
 have hzf:=h.zf.opens x (by rw [hx])
 subst hv0
 refine zCz 27 Tryz.func88 ?_
 refine zz ?_
 refine zCl rfl (rElem'_calls h.site.doc (by omega) 1 (bs nm) ha (by rw [encT_len];omega)) ?_
 rintro _ w1 ⟨rfl,vn',vu',vr',ms',ks',hI,hWr⟩
 rw [←hx] at hI
 refine ⟨_,rfl,?_⟩
 obtain ⟨h1,hW1⟩:=h.site.docW hI hWr
 refine zz ?_
 refine zCr rfl (rsTop_calls h1 (by simp) (by rw [List.length_reverse];simp only [List.length_cons] at hlen ⊢;omega)) fun w2 hC2=> ?_
 rw [rev_top]
 have h2:=h1.no hC2
 refine zCl rfl (rsLay_calls h2 hWF (by simp;omega) _ _) ?_
 rintro _ w3 ⟨rfl,r3,p3,N3,hv3,hR3,h3,hW3⟩
 refine ⟨_,rfl,?_⟩
 obtain ⟨_,e3⟩:=hR3.1 hput
 have epl:(placeN (ndOf (N++ [x]) (n:Nat)).kids (-1)).getD 0=(N.getD n n0).kids.length:=by
  show (placeN ((N++ [x]).getD n n0).kids (-1)).getD 0=_
  rw [hxn];unfold placeN;rw [if_pos rfl];rfl
 rw [epl] at e3
 have e4:N3=layN (N++ [x]) N.length n (N.getD n n0).kids.length:=e3
 have hN3l:N3.length=N.length+1:=by rw [e4,layN_len];simp
 rw [←e4] at hzf
 have hwf3:WF N3:=by
  rw [e4]
  exact hWF.lay _ (by simp) (by simp;omega) (by rw [hxl,hx]) hna (by omega)
 have hg:N3.getD N.length n0={x with up:=(n:Int)}:=by
  rw [e4,layN_get (by simp) (by simp;omega),if_pos rfl,hxl]
 have hkn:(nodeOf N3 (N.length:Nat)).kind=1:=by
  have:nodeOf N3 (N.length:Nat)=N3.getD N.length n0:=if_pos ⟨by omega,by omega⟩
  rw [this,hg,hx]
 have hfresh: ∀k,k<(n::R).reverse.length→(n::R).reverse.getD k 0≠N.length:=fun k hk he=>by
  have:=h.zf.lt ((n::R).reverse.getD k 0) (List.mem_reverse.mp (getD_mem hk))
  omega
 refine zz ?_
 refine zCl rfl (rsPush_calls h3 (by rw [List.length_reverse];simp only [List.length_cons] at hlen ⊢;omega) (by simp) N.length hkn hfresh) ?_
 rintro _ w4 ⟨rfl,v4,h4,hW4⟩
 refine ⟨_,rfl,?_⟩
 have hbig: ∀i,(N3.getD i n0).text.length≤1000000000:=fun i=>by
  rw [e4,layN_get (by simp) (by simp;omega),hxl,hxn,getD_add]
  by_cases hi1:i=N.length
  ·rw [if_pos hi1,hx];exact Nat.zero_le _
  rw [if_neg hi1,if_neg hi1]
  split
  ·exact h.big n
  ·exact h.big i
 have hWT:WrT w w4 t q.r {r3 with vrow:=v4}:=((hW1.trans (WrT.of_no hC2 _ _)).trans hW3).trans hW4
 have hrow:(n::R).reverse++ [N.length]=(N.length::n::R).reverse:=by simp
 rw [hrow] at h4
 have hzf3:ZF N3 [] (N.length::n::R) ((⟨nm,al,.nil⟩::f::fr:List FE).map FE.ft) N3.length:=by
  rw [hN3l]
  have:hdOf x=elemH nm al:=by rw [hx];rfl
  rw [this] at hzf
  exact hzf
 obtain ⟨g1,g2⟩:=h.siteW (R':=N.length::n::R) (fr':=⟨nm,al,.nil⟩::f::fr) h4 hWT hv3.1 hwf3 hzf3 hbig
 refine zz ?_
 exact zk_ret1 (.inr rfl) rfl rfl ⟨rfl,_,N3,g1,g2,rfl,by omega⟩
end
end Go.Proofs.YtbcmiijollpgeaaGreat.D
namespace Go.Z
open Go
theorem r_field {P:Program} {n:Nat} {e:Env} {w:World} {d:Tmp} {ty:TypeId} {pos:String} {aft:Array Edge} {g:Option (Nat×Bool)} {s f:Nat} {x:Operand} {v u:Value} (hx:ev e x=some v) (hf:(Instr.field s v f).run P w= .ok u w):Rd P n e w ⟨some d,.field s x f,ty,pos,aft,g⟩ u:=
 fun a ha=>by simp [execOp,ha.ev hx,hf]
end Go.Z
namespace Go.Proofs.YtbcmiijollpgeaaGreat.D
open Go Go.Z Go.Proofs
theorem fld72 (w:World) (c0 c1 c2 c3 c4 c5 c6:Value):(Instr.field 80 (.agg #[c0,c1,c2,c3,c4,c5,c6]) 2).run Tryz.prog w= .ok c2 w:=by kernel_rfl
def FE.add (f:FE) (x:Hd) (k:NT):FE:={f with done:=f.done.snoc x k}
def FE.shut (g f:FE):FE:=g.add (elemH f.nm f.al) f.done
def FE.txt (f:FE) (s:List UInt8):FE:=f.add (hdOf (textN s)) .nil
section
variable {w w' w0 w1 w2 : World} {t : Nat} {q q' q1 : SQ} {N N' : List ND} {n m : Nat} {R R' : List Nat} {f g : FE} {fr fr' : List FE} {l : List Nat}
theorem sType_calls (h:IsS w t q N (n::R) (f::fr)) (hf:fr.length≤998) (hl:N.length≤2000000) (s:List UInt8) (hs:s≠ []) (hsl:s.length≤10000000) (hlast: ∀x,f.done.lastH=some x→x.kind≠2):
  Calls Tryz.prog 48 [.pointer (some ⟨t,0,none⟩),.string (bs s)].toArray w (SPost w t q (n::R) (f.txt s::fr) q.M (N.length+1) (.tuple #[])):=by
 have hb:=h.site.blk
 have hlen:=h.len.1
 have hnN:n<N.length:=h.zf.lt n (by simp)
 have hp:=h.wf.pos
 have hkind:(N.getD n n0).kind=1:=congrArg Hd.kind h.zf.1
 have hok:WriteOk N (n:Nat) (-1):=⟨⟨by omega,by omega⟩,hkind,by unfold placeN;rw [if_pos rfl];rfl⟩
 have hzf:=h.zf.text s hs hlast
 have hlk:=h.zf.lastK hlast
 refine zCz 21 Tryz.func48 ?_
 refine zz ?_
 refine zCr rfl (sTop_calls h (by simp only [List.length_cons];omega)) fun w1 hC1=> ?_
 have h1:=h.no hC1
 refine zCp rfl (rsSpot_calls h1.site _) ?_
 have hb1:=hb.no hC1
 refine zz ?_
 refine zCl rfl (rWrite_calls h1.site.doc h.wf (by omega) s hsl h.big _ _) ?_
 rintro _ w2 ⟨qb,vn',vu',vr',ms',ks',N2,rfl,hI,hWr,hR2⟩
 refine ⟨_,rfl,?_⟩
 obtain ⟨h2,hW2⟩:=h1.site.docW hI hWr
 obtain ⟨_,e2⟩:=hR2.1 hok
 have epl:(placeN (ndOf N (n:Nat)).kids (-1)).getD 0=(N.getD n n0).kids.length:=by unfold placeN;rw [if_pos rfl];rfl
 rw [epl] at e2
 have e3:N2=writeN N s n (N.getD n n0).kids.length:=e2
 rw [←e3] at hzf
 have hwf:=hR2.wf h.wf
 have hbig: ∀i,(N2.getD i n0).text.length≤1000000000:=fun i=>by
  rw [e3]
  unfold writeN
  have a1:(N++ [textN s]).getD N.length n0=textN s:=by rw [getD_add,if_pos rfl]
  have a2:(N++ [textN s]).getD n n0=N.getD n n0:=by rw [getD_add,if_neg (by omega)]
  rw [if_neg hs,if_neg hlk,layN_get (by simp) (by simp;omega),a1,a2,getD_add]
  by_cases hi1:i=N.length
  ·rw [if_pos hi1];show s.length≤_;omega
  rw [if_neg hi1,if_neg hi1]
  split
  ·exact h.big n
  ·exact h.big i
 obtain ⟨g1,g2⟩:=h1.siteW (R':=n::R) (fr':=f.txt s::fr) h2 hW2 rfl hwf.1 hzf hbig
 refine zN ?_
 exact zk_ret0 (.inl rfl) rfl ⟨rfl,_,N2,g1,(WrS.of_no hC1 _ _).trans g2,rfl,hwf.2⟩
theorem rev_pop (n m:Nat) (R:List Nat):(n::m::R).reverse.take ((n::m::R).reverse.length - 1)=(m::R).reverse:=by
 rw [List.reverse_cons,List.length_append,List.length_singleton,Nat.add_sub_cancel,List.take_left]
theorem IsS.pop (h:IsS w t q N (n::m::R) (f::g::fr)) {v:Value} (h1:IsT w' t {q.r with vrow:=v} N (m::R).reverse) (hW:WrT w w' t q.r {q.r with vrow:=v}) {x:Value}:SPost w t q (m::R) (g.shut f::fr) q.M N.length x (.returned x) w':=by
 obtain ⟨g1,g2⟩:=h.siteW (R':=m::R) (fr':=g.shut f::fr) h1 hW rfl h.wf h.zf.close h.big
 exact ⟨rfl,_,N,g1,g2,rfl,Nat.le_refl _⟩
theorem sPop_calls (h:IsS w t q N (n::m::R) (f::g::fr)) (hf:fr.length≤998):Calls Tryz.prog 49 [.pointer (some ⟨t,0,none⟩)].toArray w (SPost w t q (m::R) (g.shut f::fr) q.M N.length (.bool true)):=by
 have hlen:=h.len.1
 refine (rsPop_calls h.site (by rw [List.length_reverse,hlen];simp only [List.length_cons];omega) (by simp) (((List.reverse_perm _).nodup_iff).2 h.zf.nodup)).mono fun e w' hh=> ?_
 obtain ⟨rfl,v,h1,hW⟩:=hh
 rw [rev_pop] at h1
 exact h.pop h1 hW
theorem lastF_top {l:List (List UInt8)} (hm:f.nm∈l):lastF l (f::g::fr)=((fr.length+1:Nat):Int):=by unfold lastF;rw [if_pos hm]
theorem IsS.lastI_calls (h:IsS w t q N R fr) (hf:fr.length≤1000) (hne:fr≠ []) {v:Value} {l:List (List UInt8)} (hN:RdS w 9 1 v l.length (T.cellsS l)) (hl:l.length≤100000):
  Calls Tryz.prog 90 [.pointer (some ⟨t,0,none⟩),v].toArray w fun x w'=>x= .returned (.int .i64 (lastF l fr))∧Chg w w' No:=by
 refine (rsLast_calls h.site h.rowN (h.pos hne) (by rw [List.length_reverse,h.len.1];omega) hN hl).mono fun e w' hh=> ?_
 rw [List.length_reverse,h.len.1,lastI_eq] at hh
 exact hh
theorem sPopTo_calls (h:IsS w t q N (n::m::R) (f::g::fr)) (hf:fr.length≤998) {v:Value} {l:List (List UInt8)} (hN:RdS w 9 1 v l.length (T.cellsS l)) (hl:l.length≤100000) (hm:f.nm∈l):
  Calls Tryz.prog 130 [.pointer (some ⟨t,0,none⟩),v].toArray w (SPost w t q (m::R) (g.shut f::fr) q.M N.length (.bool true)):=by
 have hlen:=h.len.1
 have hll:(n::m::R).reverse.length=fr.length+2:=by rw [List.length_reverse,hlen];simp only [List.length_cons]
 refine (rsPopTo_calls h.site h.rowN (h.pos (by simp)) (by omega) hN hl (fr.length+1) (by omega) ?_).mono fun e w' hh=> ?_
 ·have:=lastI_eq l (f::g::fr)
  rw [lastF_top hm] at this
  rw [hll]
  exact this
 ·obtain ⟨rfl,v,h1,hW⟩:=hh
  have e:=rev_pop n m R
  rw [hll] at e
  rw [show fr.length+1=fr.length+2 - 1 by omega,e] at h1
  exact h.pop h1 hW
theorem sHas_calls (h:IsS w t q N R (f::fr)) (hf:fr.length≤998) {v:Value} {l:List (List UInt8)} (hN:RdS w 9 1 v l.length (T.cellsS l)) (hl:l.length≤100000) (sc:Int) (hsc:sc=1∨sc=2∨sc=3∨sc=4):
  Calls Tryz.prog 123 [.pointer (some ⟨t,0,none⟩),.int .i64 sc,v].toArray w fun x w'=>(∃y,x= .returned (.bool y)∧(fr≠ []→f.nm∈l→y=true)∧([]∉l→(∀g∈f::fr,g.nm∉l)→y=false))∧Chg w w' No:=by
 have hlen:=h.len.1
 simp only [List.length_cons] at hlen
 refine (rsHas2_calls h.site h.rowN (h.pos (by simp)) (by rw [List.length_reverse];omega) hN hl sc hsc).mono fun e w' hh=> ?_
 obtain ⟨⟨y,h1,h2,h3⟩,h4⟩:=hh
 refine ⟨⟨y,h1,fun hne hm=> ?_,fun h0 hno=> ?_⟩,h4⟩
 ·have:=List.length_pos_iff.mpr hne
  refine h2 (by rw [List.length_reverse];omega) ?_
  rw [List.length_reverse,hlen,Nat.add_sub_cancel,nmsF_top]
  exact hm
 ·refine h3 fun i=> ?_
  by_cases hi:i<(nmsF (f::fr)).length
  ·have:=getD_mem (d:= []) hi
   unfold nmsF at this
   rw [List.mem_reverse,List.mem_map] at this
   obtain ⟨g,hg,he⟩:=this
   unfold nmsF
   rw [←he]
   exact hno g hg
  ·rw [List.getD_eq_getElem?_getD,List.getElem?_eq_none (by omega)]
   exact h0
theorem sImply_calls (h:IsS w t q N (n::m::R) (f::g::fr)) (hf:fr.length≤998) (but:List UInt8) (hm:f.nm∈B.wd (B.setW 4)→f.nm=but):
  Calls Tryz.prog 150 [.pointer (some ⟨t,0,none⟩),.string (bs but)].toArray w fun x w'=>x= .returned (.tuple #[])∧Chg w w' No:=by
 have hb:=h.site.blk
 have hf1:(f::g::fr).length≤1000:=by simp only [List.length_cons];omega
 have hnN:n<N.length:=h.zf.lt n (by simp)
 have hpos:0<n:=by have:=h.zf.pos 0 (by simp);simpa using this
 have hd:hdOf (N.getD n n0)=elemH f.nm f.al:=h.zf.1
 have hx:nodeOf N (n:Nat)=N.getD n n0:=if_pos ⟨by omega,by omega⟩
 have k3:(nodeOf N (n:Nat)).name=bs f.nm:=by rw [hx];exact congrArg Hd.name hd
 have hwl:(B.wd (B.setW 4)).length≤100000:=by decide+kernel
 refine zCz 23 Tryz.func150 ?_
 refine zB ?_
 refine zc_loopW (ι:=Nat) (fun k u=> [(0,.pointer (some ⟨t,0,none⟩)),(1,.string (bs but))]) (fun k u=>u=w) (fun k u=>0) 0 rfl ⟨rfl,rfl,trivial⟩ ?_
 rintro k u hu
 obtain rfl:=hu.symm
 refine zS (zS ?_)
 refine zc_draw [] (fun w'=>Chg w w' No∧Blk w' t 74 [.pointer (some ⟨q.r.pd,0,none⟩),.pointer (some ⟨q.r.pm,0,none⟩),q.r.vrow,.bool false]) (.take 0 (.take 1 (.all1 2 (.all1 3 (.all1 4 (.take 5 (.take 6 (.take 7 (.take 8 (.take 9 (.take 10 (.take 14 (.all1 11 (.all1 12 (.take 13 (.take 15 (.take 16 (.fin)))))))))))))))))) (by rfl) (by kernel_rfl) (by kernel_rfl) (fun w1 hC1 _=>⟨?_,?_⟩)
 ·exact ⟨hC1,hb.no hC1⟩
 refine ztP rfl rfl (ztP rfl rfl ?_)
 refine zs_call rfl (want_L rfl) rfl (by decide) rfl (sTop_calls (h.no hC1) hf1) ?_
 rintro _ w2 ⟨rfl,hC2⟩
 have hC2:=hC1.no hC2
 refine ⟨_,rfl,⟨hC2,hb.no hC2⟩,?_⟩
 refine zs_call rfl (want_L rfl) rfl (by decide) rfl (B.set_calls 4 (by decide) (by decide)) ?_
 rintro _ w3 ⟨⟨A,c,rfl,hO⟩,hC3⟩
 have hC3:=hC2.no hC3
 refine ⟨_,rfl,⟨hC3,hb.no hC3⟩,?_⟩
 refine zs_call rfl (want_L rfl) rfl (by decide) rfl (rsIs2_calls (h.no hC3).site hO hwl n hnN f.nm f.al hd) ?_
 rintro _ w4 ⟨rfl,hC4⟩
 have hC4:=hC3.no hC4
 refine ⟨_,rfl,⟨hC4,hb.no hC4⟩,?_⟩
 by_cases hi:f.nm∈B.wd (B.setW 4)
 ·rw [decide_eq_true (⟨by omega,hi⟩:n≠0∧f.nm∈B.wd (B.setW 4))]
  have hbut:=hm hi
  refine zz ?_
  refine zs_call rfl (want_L rfl) rfl (by decide) rfl (sTop_calls (h.no hC4) hf1) ?_
  rintro _ w5 ⟨rfl,hC5⟩
  have hC5:=hC4.no hC5
  refine ⟨_,rfl,⟨hC5,hb.no hC5⟩,?_⟩
  refine zs_call rfl (want_L rfl) rfl (by decide) rfl (rNode_calls (h.no hC5).site.doc (n:Nat)) ?_
  rintro _ w6 ⟨va,rfl,hA6,hC6⟩
  have hC6:=hC5.no hC6
  refine ⟨_,rfl,⟨hC6,hb.no hC6⟩,?_⟩
  rw [k3,hbut]
  refine zRd rfl rfl (fun _ hS=>r_field rfl (fld72 _ _ _ _ _ _ _ _)) ?_
  refine zRd rfl rfl (fun _ hS=>r_neS0 rfl rfl rfl) ?_
  refine zz ?_
  exact zk_ret0 (.inl rfl) rfl ⟨rfl,hC6⟩
 ·rw [decide_eq_false (fun hh:n≠0∧f.nm∈B.wd (B.setW 4)=>hi hh.2)]
  refine zz ?_
  exact zk_ret0 (.inl rfl) rfl ⟨rfl,hC4⟩
end
end Go.Proofs.YtbcmiijollpgeaaGreat.D
