import Derived.Test.YtbcmiijollpgeaaGreatWB
set_option maxHeartbeats 32000000
set_option maxRecDepth 100000
set_option linter.unusedVariables false
set_option linter.unusedSimpArgs false
namespace Go.Proofs.YtbcmiijollpgeaaGreat.T
open Go Go.Z Go.Proofs
theorem in_calls {w:World} {v:Value} (l:List (List UInt8)) (x:List UInt8) (h:RdS w 9 1 v l.length (strs l)) (hl:l.length≤100000):Calls Tryz.prog 97 [v,.string (bs x)].toArray w fun e w'=>e= .returned (.bool (decide (x∈l)))∧w'=w:=by
 obtain ⟨A,c,rfl,hc⟩:=h.form
 refine zCz 18 Tryz.func97 ?_
 refine zz ?_
 refine zc_loopW (ι:=Nat) (fun i u=> [(0,.slice A l.length c),(1,.string (bs x)),(5,.int .i64 i)]) (fun i u=>i≤l.length∧(∀j,j<i→l.getD j []≠x)∧u=w) (fun i u=>l.length - i) 0 ⟨Nat.zero_le _,fun j hj=>absurd hj (Nat.not_lt_zero j),rfl⟩ ?_ ?_
 ·exact ⟨rfl,rfl,rfl,trivial⟩
 rintro i u ⟨hi,hno,hu⟩
 obtain rfl:=hu.symm
 by_cases hlt:i<l.length
 ·obtain ⟨b,o,c',hv,_,hcell⟩:=h.some (by omega)
  cases hv
  have hc0:=hcell (i*1) _ (by rw [Nat.mul_one];exact strs_get l i hlt)
  refine zz ?_
  refine zEq rfl rfl (fun hc=> ?_) (fun hc=> ?_)
  ·refine zz ?_
   exact zk_ret1 (.inr rfl) rfl rfl ⟨by rw [decide_eq_true (by rw [←hc];exact getD_mem l i hlt)],rfl⟩
  ·refine zz ?_
   exact zk_loopW (i+1) ⟨by omega,fun j hj=>by
    rcases Nat.lt_or_ge j i with h1|h1
    ·exact hno j h1
    ·obtain rfl:j=i:=by omega
     exact hc,rfl⟩ (by omega) ⟨rfl,rfl,get_int rfl (by simp),trivial⟩
 ·obtain rfl:i=l.length:=by omega
  refine zz ?_
  refine zk_ret1 (.inr rfl) rfl rfl ⟨?_,rfl⟩
  rw [decide_eq_false (fun hm=> ?_)]
  obtain ⟨j,hj,he⟩:=List.getElem_of_mem hm
  exact hno j hj (by rw [List.getD_eq_getElem?_getD,List.getElem?_eq_getElem hj];exact he)
theorem texts_calls {w:World}:Calls Tryz.prog 104 ([]:List Value).toArray w fun e w'=>(∃b,e= .returned (.slice (some ⟨b,0,none⟩) 13 13)∧Blk w' b 9 (strs lTx))∧Chg w w' No:=by
 refine zCz 2 Tryz.func104 ?_
 refine zz ?_
 refine z_bsE (strs lTx) (want_L rfl) (by decide) rfl (by decide) (by decide) (by kernel_rfl) (fun w1 b1 hN1=> ?_)
 refine zz ?_
 exact zk_ret1 (.inr rfl) rfl rfl ⟨⟨b1,rfl,hN1.blk⟩,hN1.chg⟩
def lnW:List UInt8:= [97,32,99,111,100,101,32,101,109,32,115,116,114,111,110,103,32,115,117,98,32,115,117,112]
def lnN:List (List UInt8):=wordsN [] lnW
theorem lnN_len:lnN.length=6:=by decide+kernel
theorem lnN_nm: ∀x∈lnN,x∈lNm:=by decide+kernel
theorem lnN_in: ∀x∈lnN,x∈tIn:=by decide+kernel
def lTx0:List (List UInt8):= []::lTx
def AT.plain:AT→Prop
 | .nil=>True
 | .cons x k r=>x.text∈lTx0∧r.plain
def AT.okp (l:List (List UInt8)) (D:Nat) (t:AT):Prop:=(t.ok∧t.plain)∧t.shp∧lineA t∧deepA t≤D∧ ∀nm∈l,nm∈tIn→ ¬hasA nm t
structure LnS (l:List (List UInt8)) (D:Nat) (t:AT) (x:Hd) (k:AT):Prop where
 tx:x.name= []→x.text≠ []∧lastNT t
 el:x.name≠ []→x.name∈tInl∧kidsA x.name k∧k.shp
 dp:1+deepA k≤D
 no: ∀nm∈l,nm∈tIn→x.name≠nm∧ ¬hasA nm k
theorem LnS.leaf {l:List (List UInt8)} {D:Nat} {t:AT} {x:Hd} (hx:x.name∈tLf) (hi:x.name∈tInl) (hD:1≤D):LnS l D t x .nil:=
 ⟨fun h=>absurd hx (by rw [h];decide),fun h=>⟨hi,kids_leaf hx rfl,trivial⟩,hD,fun nm _ hn=>⟨fun he=>absurd hn ((show∀a∈tLf,a∉tIn by decide) nm (he▸hx)),id⟩⟩
theorem LnS.text {l:List (List UInt8)} {D:Nat} {t:AT} {tx:List UInt8} (h1:tx≠ []) (h2:lastNT t) (hD:1≤D):LnS l D t ⟨[],[],tx⟩ .nil:=
 ⟨fun _=>⟨h1,h2⟩,fun h=>absurd rfl h,hD,fun nm _ hn=>⟨fun he=>(by have he: []=nm:=he;subst he;exact absurd hn (by decide)),id⟩⟩
theorem AT.snoc_plain: ∀{t:AT} {x:Hd} {k:AT},t.plain→x.text∈lTx0→(t.snoc x k).plain
 | .nil,x,k,_,hx=>⟨hx,trivial⟩
 | .cons y k' r,x,k,h,hx=>⟨h.1,AT.snoc_plain h.2 hx⟩
theorem AT.snoc_okp {l:List (List UInt8)} {D:Nat} {t:AT} {x:Hd} {k:AT} (h:t.okp l D) (hx:HdOk x) (hk:k.ok) (hp:x.text∈lTx0) (hs:LnS l D t x k):(t.snoc x k).okp l D:=by
 obtain ⟨h1,h2,h3,h4,h5⟩:=h
 refine ⟨⟨AT.snoc_ok h1.1 hx hk,AT.snoc_plain h1.2 hp⟩,shp_snoc ⟨fun hn=>(hs.tx hn).1,fun hn=>(hs.el hn).2⟩ t h2,lineA_snoc ?_ t h3 (fun hn=>(hs.tx hn).2),by rw [deepA_snoc];have:=hs.dp;omega,fun nm hn hi hh=> ?_⟩
 ·by_cases hn:x.name= []
  ·exact .inl hn
  ·exact .inr (hs.el hn).1
 ·rcases hasA_snoc t hh with h|h|h
  ·exact h5 nm hn hi h
  ·exact (hs.no nm hn hi).1 h
  ·exact (hs.no nm hn hi).2 h
theorem mem0:([]:List UInt8)∈lTx0:=by decide
def lnZ:Nat→Nat
 |0=>3
 |r+1=>3*(1+lnZ r)
theorem lnZ_one: ∀r,1≤lnZ r / 3
 |0=>by decide
 |r+1=>by simp [lnZ]
theorem lnZ_div (r:Nat):lnZ (r+1) / 3=1+lnZ r:=by simp [lnZ]
def LineC (r:Nat):Prop:= ∀{w:World} {B bt:Nat} {v:Value} (l:List (List UInt8)),Tp w B bt→RdS w 9 1 v l.length (strs l)→l.length+r≤900→ ∀{lv:Int},lv=6 - (r:Int)→
 Calls Tryz.prog 66 [.pointer (some ⟨bt,0,none⟩),.int .i64 lv,v].toArray w fun e w'=> ∃vo t,e= .returned vo∧Out w.heap.size w' vo t∧t.okp l (r+1)∧0<t.len∧t.size≤lnZ r∧Tp w' B bt∧Chg w w' (· =bt)
theorem RdS.tp {w w':World} {ty sz m:Nat} {v:Value} {cs:List Value} {B bt:Nat} (h:RdS w ty sz v m cs) (hT:Tp w B bt) (hc:Chg w w' (· =bt)) (ht:ty≠36):RdS w' ty sz v m cs:=by
 obtain ⟨c0,hb⟩:=hT.blk
 exact RdS.chgAt h hc (fun _ b cells _ hk he=>hk.ne hb ht he)
theorem RdS.art {w w1:World} {b:Nat} {m:MA} {x:Hd} {o:Nat→Prop} {k:AT} (hx:HO w m x) (hk:TreeOk w o m.kids k) (h:New w w1 b 43 (encM [m])):RdS w1 43 5 (.slice (some ⟨b,0,none⟩) 1 1) 1 (encM [m]):=by
 refine RdS.new h rfl ?_
 obtain ⟨A,c,hv,_⟩:=hx.2.1.form
 obtain ⟨A',n',c',hf⟩:=hx.2.2.2
 obtain ⟨A2,c2,hv',_⟩:=hk.form
 intro u hu
 simp only [encM,List.mem_cons,List.not_mem_nil,or_false] at hu
 rcases hu with rfl|rfl|rfl|rfl|rfl
 ·rfl
 ·rw [hv];rfl
 ·rfl
 ·rw [hf];rfl
 ·rw [hv'];rfl
theorem z_push {n:Nat} {e:Env} {w w0:World} {Q:Exit→Act→World→Prop} {ops:Array Oper} {rest:List Oper} {d:Tmp} {ty:TypeId} {pos:String} {aft:Array Edge} {g:Option (Nat×Bool)} {s x:Operand} {B b:Nat} {vo:Value} {t:AT} {m:MA} {h:Hd} {k:AT}
  (hw:Want ops e g) (hdn:d<n) (hs:ev e s=some vo) (hx:ev e x=some (.slice (some ⟨b,0,none⟩) 1 1)) (hO:Out B w0 vo t) (hm:HO w0 m h) (hk:TreeOk w0 (fun b=>B≤b∧vo.ownBlock≠some b) m.kids k) (hB:B≤w0.heap.size) (hN:New w0 w b 43 (encM [m])) (hl:t.len≤1000000000)
  (hq: ∀v' w',Out B w' v' (t.snoc h k)→Chg w0 w' (fun j=>vo.ownBlock=some j)→ZL Tryz.prog n ops rest ((d,v')::e) w' Q):
  ZL Tryz.prog n ops (⟨some d,.call {callee:= .builtin .append,args:= #[s,x],argTypes:= #[24,24]},ty,pos,aft,g⟩::rest) e w Q:=by
 obtain ⟨ms,g1,g2,g3⟩:=hO
 have hlen:=Out.len B g3
 have hr:=RdS.art hm hk hN
 refine z_appendO (by rfl) (by decide) hw hdn hs hx (g1.no hN.chg) hr (by omega) (by omega) (fun v' w' hO' hC' hr'=> ?_)
 exact hq v' w' (Out.push g1 g2 g3 hm hk hB hN.chg hO' hC' hr') ((hN.chg.mono (fun _ _ h=>h.elim)).trans hC' (fun _ _ h=>h))
theorem Tp.own {w w':World} {B bt B':Nat} {vo:Value} {t:AT} (h:Tp w B bt) (hO:Out B' w vo t) (hB:B≤B') (hc:Chg w w' (fun j=>vo.ownBlock=some j)):Tp w' B bt:=by
 obtain ⟨ms,g1,g2,g3⟩:=hO
 obtain ⟨cs,hb⟩:=h.blk
 exact h.oth hc (fun he=>g1.ne he hb (by decide) rfl) (fun k _ hk=>Nat.le_trans hB (g2 k hk))
theorem Chg.own {w0 w w':World} {bt B':Nat} {vo:Value} {t:AT} (h:Chg w0 w (· =bt)) (hO:Out B' w vo t) (hB:w0.heap.size≤B') (hc:Chg w w' (fun j=>vo.ownBlock=some j)):Chg w0 w' (· =bt):=by
 obtain ⟨ms,g1,g2,g3⟩:=hO
 exact h.trans hc (fun i hi he=>by have:=g2 i he;omega)
theorem cellsS_strs (l:List (List UInt8)):cellsS l=strs l:=rfl
theorem line_body (r:Nat) (hr6:r≤6) (hrec: ∀r',r=r'+1→LineC r'):LineC r:=by
 intro w B bt v l hT0 hv0 hl lv hlv
 obtain ⟨Av,cv,hvf,hcv⟩:=hv0.form
 subst hvf
 refine zCz 113 Tryz.func66 ?_
 refine zz ?_
 refine zCl rfl (next_calls hT0 3 (by decide) (by decide) rfl) ?_
 rintro _ w1 ⟨⟨kn,hkn,rfl⟩,hT1,hC1⟩
 refine ⟨_,rfl,?_⟩
 refine zz ?_
 refine zc_loopW (ι:=Nat×Value×AT) (fun q u=> [(0,.pointer (some ⟨bt,0,none⟩)),(1,.int .i64 lv),(2,.slice Av l.length cv),(7,q.2.1),(8,.int .i64 (1+(kn:Int))),(9,.int .i64 q.1)])
  (fun q u=>q.1≤1+kn∧Out w.heap.size u q.2.1 q.2.2∧q.2.2.okp l (r+1)∧q.2.2.len=q.1∧q.2.2.size+(1+kn - q.1)*(lnZ r / 3)≤(1+kn)*(lnZ r / 3)∧Tp u B bt∧Chg w u (· =bt)) (fun q u=>1+kn - q.1) (0,nS,.nil) ⟨Nat.zero_le _,Out.nil,⟨⟨trivial,trivial⟩,trivial,trivial,Nat.zero_le _,fun _ _ _ h=>h⟩,rfl,by simp [AT.size],hT1,hC1⟩ ?_ ?_
 ·exact ⟨rfl,rfl,rfl,rfl,rfl,rfl,trivial⟩
 rintro ⟨i,vo,t⟩ u ⟨hi,hO,hok,hlen,hsz,hT,hC⟩
 dsimp only at hi hO hok hlen hsz hT hC ⊢
 have hws:=hC.size
 by_cases hlt:i<1+kn
 rotate_left
 ·obtain rfl:i=1+kn:=by omega
  refine zz ?_
  have hz:(1+kn)*(lnZ r / 3)≤lnZ r:=by
   have h1:=Nat.mul_le_mul_right (lnZ r / 3) (show 1+kn≤3 by omega)
   have h2:=Nat.mul_div_le (lnZ r) 3
   omega
  refine zk_ret1 (.inr rfl) rfl rfl ⟨_,t,rfl,hO,hok,by omega,by omega,hT,hC⟩
 obtain ⟨A0,c0,hvo,hc0⟩:=hO.form
 subst hvo
 refine zz ?_
 refine zCl rfl (next_calls hT 10 (by decide) (by decide) rfl) ?_
 rintro _ u1 ⟨⟨k1,hk1,rfl⟩,hTa,hCa⟩
 refine ⟨_,rfl,?_⟩
 have hO1:=hO.tp hT hCa
 have hC1':Chg w u1 (· =bt):=hC.trans hCa (fun _ _ h=>h)
 refine zz ?_
 refine zCl rfl (wordsR_calls (l:=lnW) (by decide)) ?_
 rintro _ u2 ⟨vn,rfl,hn1,hCb⟩
 refine ⟨_,rfl,?_⟩
 rw [show wordsN [] lnW=lnN from rfl,lnN_len,cellsS_strs] at hn1
 have hO2:=hO1.no hCb
 have hTb:=hTa.no hCb
 obtain ⟨bn,on,cn,hvn,_,_⟩:=RdS.some hn1.rd (by omega)
 subst hvn
 refine zP rfl ?_
 refine zCl rfl (next_calls hTb 6 (by decide) (by decide) rfl) ?_
 rintro _ u3 ⟨⟨j,hj,rfl⟩,hTc,hCc⟩
 refine ⟨_,rfl,?_⟩
 have hO3:=hO2.tp hTb hCc
 have hC3:Chg w u3 (· =bt):=(hC1'.no hCb).trans hCc (fun _ _ h=>h)
 have hn3:=RdS.tp hn1.rd hTb hCc (by decide)
 obtain ⟨bn',on',cn',hvn,_,hcn⟩:=RdS.some hn3 (by omega)
 cases hvn
 have hcj:=hcn j _ (strs_get lnN j (by rw [lnN_len];exact hj))
 have hnm:=lnN_nm _ (getD_mem lnN j (by rw [lnN_len];exact hj))
 have hnl:=lnN_in _ (getD_mem lnN j (by rw [lnN_len];exact hj))
 generalize lnN.getD j []=nm at hcj hnm hnl
 have hsu3:=hC3.size
 refine zIa rfl rfl (zL1 rfl (cell_at hcj (by omega)) (zP rfl (zN (zK ?_))))
 have hz1:=lnZ_one r
 refine zc_midBX (ι:=Value×AT) (fun q u'=>Out w.heap.size u' q.1 q.2∧q.2.okp l (r+1)∧q.2.len=i+1∧q.2.size≤t.size+lnZ r / 3∧Tp u' B bt∧Chg w u' (· =bt)) (fun q=> [(0,.pointer (some ⟨bt,0,none⟩)),(1,.int .i64 lv),(2,.slice Av l.length cv),(7,q.1),(8,.int .i64 (1+(kn:Int))),(9,.int .i64 i)]) ?_ ?_
 rotate_left
 ·rintro ⟨vo',t'⟩ u' ⟨g1,g2,g3,g4,g5,g6⟩
  dsimp only at g1 g2 g3 g4 g5 g6 ⊢
  refine zz ?_
  refine zk_loopW (i+1,vo',t') ⟨by omega,g1,g2,g3,?_,g5,g6⟩ (by show 1+kn - (i+1)<1+kn - i;omega) ⟨rfl,rfl,rfl,rfl,rfl,get_int rfl (by simp),trivial⟩
  dsimp only
  obtain ⟨m,hm⟩: ∃m,1+kn - i=m+1:=⟨1+kn - i - 1,by omega⟩
  rw [hm,Nat.add_mul,Nat.one_mul] at hsz
  rw [show 1+kn - (i+1)=m by omega];omega
 refine zB ?_
 refine zc_midX (ι:=Bool) (fun q u'=>u'=u3∧(q=true→lastNT t)) (fun q=> [(0,.pointer (some ⟨bt,0,none⟩)),(1,.int .i64 lv),(2,.slice Av l.length cv),(7,.slice A0 t.len c0),(8,.int .i64 (1+(kn:Int))),(9,.int .i64 i),(10,.int .i64 k1),(11,.string (bs nm)),(32,.bool q)]) ?_ ?_
 ·by_cases hk4:k1<4
  ·by_cases hl0:t.len=0
   ·refine zz ?_
    exact zk_midX true ⟨rfl,fun _=>by
     cases t with
     |nil=>trivial
     |cons y k2 r2=>simp [AT.len] at hl0⟩ ⟨rfl,rfl,rfl,rfl,rfl,rfl,rfl,rfl,rfl,trivial⟩
   ·obtain ⟨b',o',c',x,kx,rx,A',F',K',e1,hv,hN,_⟩:=hO3.tree.at'.at_ (t.len - 1) (by omega)
    cases hv
    have hcx:u3.cell? ⟨b',o'+((t.len:Int) - 1).toNat*5+0,none⟩=some (.string (bs x.name)):=by
     have e:((t.len:Int) - 1).toNat=t.len - 1:=by omega
     rw [e];exact hN.c0
    refine zz ?_
    refine z_neL (r:= []) (want_L rfl) (by decide) rfl rfl (fun hc=> ?_) (fun hc=> ?_)
    ·refine zP rfl (zP rfl (zP rfl (zN ?_)))
     exact zk_midX true ⟨rfl,fun _=>lastNT_drop hc t e1⟩ ⟨rfl,rfl,rfl,rfl,rfl,rfl,rfl,rfl,rfl,trivial⟩
    ·refine zP rfl (zP rfl (zP rfl (zN ?_)))
     exact zk_midX false ⟨rfl,fun h=>by cases h⟩ ⟨rfl,rfl,rfl,rfl,rfl,rfl,rfl,rfl,rfl,trivial⟩
  ·refine zz ?_
   exact zk_midX false ⟨rfl,fun h=>by cases h⟩ ⟨rfl,rfl,rfl,rfl,rfl,rfl,rfl,rfl,rfl,trivial⟩
 have hdBr:HdOk ⟨nBr,[],[]⟩:=⟨by decide,⟨by simp,by simp⟩,by simp,by decide⟩
 have hdTx: ∀x∈lTx,HdOk ⟨[],[],x⟩:=fun x hx=>⟨(by decide:([]:List UInt8)∈lNm),⟨by simp,by simp⟩,by simp,by unfold lTxs;simp only [List.mem_cons,List.mem_append];exact .inr (.inr (.inl hx))⟩
 have hlt3:t.len≤3:=by omega
 rintro q uq ⟨hq,hqt⟩
 obtain rfl:=hq.symm
 cases q
 rotate_left
 ·refine zz ?_
  refine zCl rfl texts_calls ?_
  rintro _ u4 ⟨⟨b4,rfl,hb4⟩,hX4⟩
  refine ⟨_,rfl,?_⟩
  have hO4:=hO3.no hX4
  have hT4:=hTc.no hX4
  have hC4:Chg w u4 (· =bt):=hC3.no hX4
  refine zP rfl ?_
  refine zCl rfl (next_calls hT4 13 (by decide) (by decide) rfl) ?_
  rintro _ u5 ⟨⟨kt,hkt,rfl⟩,hT5,hX5⟩
  refine ⟨_,rfl,?_⟩
  have hO5:=hO4.tp hT4 hX5
  have hC5:Chg w u5 (· =bt):=hC4.trans hX5 (fun _ _ h=>h)
  have hb5:=keepT hT4 hX5 _ _ _ (by decide) hb4
  have hgt:=(hb5.cell kt).trans (strs_get lTx kt hkt)
  have hmt:=getD_mem lTx kt hkt
  generalize lTx.getD kt []=tx at hgt hmt
  refine zIa rfl rfl (zL1 rfl (cell_at hgt (by omega)) (zz ?_))
  refine zB1 rfl (fun u6 b6 hN6=> ?_)
  have hO6:=hO5.no hN6.chg
  have hT6:=hT5.no hN6.chg
  have hC6:Chg w u6 (· =bt):=hC5.no hN6.chg
  refine z_buildE #[.string (bs []),nS,.string (bs tx),.slice (some ⟨b6,0,none⟩) 1 1,nS] (want_L rfl) (by decide) rfl (by kernel_rfl) ?_
  refine z_bsE (encM [⟨[],nS,tx,.slice (some ⟨b6,0,none⟩) 1 1,nS⟩]) (want_L rfl) (by decide) rfl (by decide) (by decide) (by kernel_rfl) (fun p1 pb hP=> ?_)
  refine z_push (h:=⟨[],[],tx⟩) (k:= .nil) (m:=⟨[],nS,tx,.slice (some ⟨b6,0,none⟩) 1 1,nS⟩) (want_L rfl) (by decide) rfl rfl hO6 ⟨rfl,AtS.nil _,rfl,⟨_,_,_,rfl⟩⟩ TreeOk.nil (by have:=hC6.size;omega) hP (by omega) (fun p2 q2 hP2 hPC=> ?_)
  have hPT:=hT6.own hO6 (by have:=hT0.lt;have:=hT0.ge;omega) hPC
  have hPW:=Chg.own hC6 hO6 (Nat.le_refl _) hPC
  obtain ⟨pA,pc,hpv,_⟩:=hP2.form
  subst hpv
  refine zz ?_
  exact zk_midX (.slice pA _ pc,t.snoc ⟨[],[],tx⟩ .nil) ⟨hP2,AT.snoc_okp hok (hdTx tx hmt) trivial (List.mem_cons_of_mem _ hmt) (LnS.text ((show∀a∈lTx,a≠ [] by decide) tx hmt) (hqt rfl) (by omega)),by rw [AT.snoc_len,hlen],by rw [AT.snoc_size];simp only [AT.size];omega,hPT,hPW⟩ ⟨rfl,rfl,rfl,rfl,rfl,rfl,trivial⟩
 ·by_cases hk4:k1=4
  ·subst hk4
   refine zz ?_
   refine z_buildE #[.string (bs nBr),nS,.string (bs []),nS,nS] (want_L rfl) (by decide) rfl (by kernel_rfl) ?_
   refine z_bsE (encM [⟨nBr,nS,[],nS,nS⟩]) (want_L rfl) (by decide) rfl (by decide) (by decide) (by kernel_rfl) (fun p1 pb hP=> ?_)
   refine z_push (h:=⟨nBr,[],[]⟩) (k:= .nil) (m:=⟨nBr,nS,[],nS,nS⟩) (want_L rfl) (by decide) rfl rfl hO3 ⟨rfl,AtS.nil _,rfl,isSl_nil⟩ TreeOk.nil (by have:=hC3.size;omega) hP (by omega) (fun p2 q2 hP2 hPC=> ?_)
   have hPT:=hTc.own hO3 (by have:=hT0.lt;have:=hT0.ge;omega) hPC
   have hPW:=Chg.own hC3 hO3 (Nat.le_refl _) hPC
   obtain ⟨pA,pc,hpv,_⟩:=hP2.form
   subst hpv
   refine zz ?_
   exact zk_midX (.slice pA _ pc,t.snoc ⟨nBr,[],[]⟩ .nil) ⟨hP2,AT.snoc_okp hok hdBr trivial mem0 (LnS.leaf (by decide:nBr∈tLf) (by decide:nBr∈tInl) (by omega)),by rw [AT.snoc_len,hlen],by rw [AT.snoc_size];simp only [AT.size];omega,hPT,hPW⟩ ⟨rfl,rfl,rfl,rfl,rfl,rfl,trivial⟩
  ·by_cases hk5:k1=5
   ·subst hk5
    refine zz ?_
    refine zCl rfl (image_calls hTc) ?_
    rintro _ u4 ⟨V,la,rfl,hAl,hl3,hla,hT4,hX4⟩
    refine ⟨_,rfl,?_⟩
    have hO4:=hO3.tp hTc hX4
    have hC4:Chg w u4 (· =bt):=hC3.trans hX4 (fun _ _ h=>h)
    obtain ⟨VA,vc,rfl,_⟩:=hAl.form
    have hdI:HdOk ⟨nImg,la,[]⟩:=⟨(by decide:nImg∈lNm),hl3,hla,(by decide:([]:List UInt8)∈lTxs)⟩
    refine z_bsE (encM [⟨nImg,.slice VA la.length vc,[],nS,nS⟩]) (want_L rfl) (by decide) rfl (by decide) (by decide) (by kernel_rfl) (fun p1 pb hP=> ?_)
    refine z_push (h:=⟨nImg,la,[]⟩) (k:= .nil) (m:=⟨nImg,.slice VA la.length vc,[],nS,nS⟩) (want_L rfl) (by decide) rfl rfl hO4 ⟨rfl,hAl,rfl,isSl_nil⟩ TreeOk.nil (by have:=hC4.size;omega) hP (by omega) (fun p2 q2 hP2 hPC=> ?_)
    have hPT:=hT4.own hO4 (by have:=hT0.lt;have:=hT0.ge;omega) hPC
    have hPW:=Chg.own hC4 hO4 (Nat.le_refl _) hPC
    obtain ⟨pA,pc,hpv,_⟩:=hP2.form
    subst hpv
    refine zz ?_
    exact zk_midX (.slice pA _ pc,t.snoc ⟨nImg,la,[]⟩ .nil) ⟨hP2,AT.snoc_okp hok hdI trivial mem0 (LnS.leaf (by decide:nImg∈tLf) (by decide:nImg∈tInl) (by omega)),by rw [AT.snoc_len,hlen],by rw [AT.snoc_size];simp only [AT.size];omega,hPT,hPW⟩ ⟨rfl,rfl,rfl,rfl,rfl,rfl,trivial⟩
   ·rcases r with _|r'
    ·refine zz ?_
     refine z_buildE #[.string (bs nBr),nS,.string (bs []),nS,nS] (want_L rfl) (by decide) rfl (by kernel_rfl) ?_
     refine z_bsE (encM [⟨nBr,nS,[],nS,nS⟩]) (want_L rfl) (by decide) rfl (by decide) (by decide) (by kernel_rfl) (fun p1 pb hP=> ?_)
     refine z_push (h:=⟨nBr,[],[]⟩) (k:= .nil) (m:=⟨nBr,nS,[],nS,nS⟩) (want_L rfl) (by decide) rfl rfl hO3 ⟨rfl,AtS.nil _,rfl,isSl_nil⟩ TreeOk.nil (by have:=hC3.size;omega) hP (by omega) (fun p2 q2 hP2 hPC=> ?_)
     have hPT:=hTc.own hO3 (by have:=hT0.lt;have:=hT0.ge;omega) hPC
     have hPW:=Chg.own hC3 hO3 (Nat.le_refl _) hPC
     obtain ⟨pA,pc,hpv,_⟩:=hP2.form
     subst hpv
     refine zz ?_
     exact zk_midX (.slice pA _ pc,t.snoc ⟨nBr,[],[]⟩ .nil) ⟨hP2,AT.snoc_okp hok hdBr trivial mem0 (LnS.leaf (by decide:nBr∈tLf) (by decide:nBr∈tInl) (by omega)),by rw [AT.snoc_len,hlen],by rw [AT.snoc_size];simp only [AT.size];omega,hPT,hPW⟩ ⟨rfl,rfl,rfl,rfl,rfl,rfl,trivial⟩
    ·have hv3:=RdS.chg hv0 hC3 (fun b cells hb he=>by obtain ⟨cs,h30⟩:=hT0.blk;exact hb.ne h30 (by decide) he)
     have hlv6:lv=5 - (r':Int):=by rw [hlv];omega
     refine zz ?_
     refine zCp rfl (in_calls l nm hv3 (by omega)) ?_
     by_cases hin:nm∈l
     rotate_left
     rw [decide_eq_false hin]
     rotate_left
     rw [decide_eq_true hin]
     rotate_left
     rotate_left
     ·refine zz ?_
      refine z_buildE #[.string (bs nBr),nS,.string (bs []),nS,nS] (want_L rfl) (by decide) rfl (by kernel_rfl) ?_
      refine z_bsE (encM [⟨nBr,nS,[],nS,nS⟩]) (want_L rfl) (by decide) rfl (by decide) (by decide) (by kernel_rfl) (fun p1 pb hP=> ?_)
      refine z_push (h:=⟨nBr,[],[]⟩) (k:= .nil) (m:=⟨nBr,nS,[],nS,nS⟩) (want_L rfl) (by decide) rfl rfl hO3 ⟨rfl,AtS.nil _,rfl,isSl_nil⟩ TreeOk.nil (by have:=hC3.size;omega) hP (by omega) (fun p2 q2 hP2 hPC=> ?_)
      have hPT:=hTc.own hO3 (by have:=hT0.lt;have:=hT0.ge;omega) hPC
      have hPW:=Chg.own hC3 hO3 (Nat.le_refl _) hPC
      obtain ⟨pA,pc,hpv,_⟩:=hP2.form
      subst hpv
      refine zz ?_
      exact zk_midX (.slice pA _ pc,t.snoc ⟨nBr,[],[]⟩ .nil) ⟨hP2,AT.snoc_okp hok hdBr trivial mem0 (LnS.leaf (by decide:nBr∈tLf) (by decide:nBr∈tInl) (by omega)),by rw [AT.snoc_len,hlen],by rw [AT.snoc_size];simp only [AT.size];omega,hPT,hPW⟩ ⟨rfl,rfl,rfl,rfl,rfl,rfl,trivial⟩
     refine zz ?_
     refine z_bs0 (want_L rfl) (by decide) (fun u4 b4 hN4=> ?_)
     have hE4:Own u4 9 1 (.slice (some ⟨b4,0,none⟩) 0 0) 0 []:=Own.empty hN4
     refine zP rfl ?_
     refine z_appendO (by rfl) (by decide) (want_L rfl) (by decide) rfl rfl hE4 (hv3.no hN4.chg) (by omega) (by omega) (fun v5 u5 hO5 hX5 hr5=> ?_)
     rw [List.nil_append,Nat.zero_add] at hO5
     obtain ⟨A5,c5,rfl,hc5⟩:=hO5.rd.form
     refine zP rfl ?_
     refine zB1 rfl (fun u6 b6 hN6=> ?_)
     have hr6':RdS u6 9 1 (.slice (some ⟨b6,0,none⟩) 1 1) 1 [.string (bs nm)]:=RdS.new hN6 rfl (fun u hu=>by simp only [List.mem_singleton] at hu;subst hu;rfl)
     refine z_appendO (by rfl) (by decide) (want_L rfl) (by decide) rfl rfl (hO5.no hN6.chg) hr6' (by omega) (by omega) (fun v7 u7 hO7 hX7 hr7=> ?_)
     obtain ⟨A7,c7,rfl,hc7⟩:=hO7.rd.form
     have hge5: ∀k,(Value.slice A5 l.length c5).ownBlock=some k→u3.heap.size≤k:=fun k hk=>by
      rcases hr5 with e1|⟨q,e1,e2⟩
      ·rw [e1] at hk;simp only [Value.ownBlock,Option.some.injEq] at hk;have:=hN4.at_;omega
      ·rw [hk] at e1;cases e1;have:=hN4.chg.size;omega
     have hX35:Chg u3 u5 No:=(hN4.chg.no (Chg.refl _ _)).trans hX5 (fun k hk he=>by simp only [Value.ownBlock,Option.some.injEq] at he;have:=hN4.at_;omega)
     have hX37:Chg u3 u7 No:=(hX35.no hN6.chg).trans hX7 (fun k hk he=>by have:=hge5 k he;omega)
     have hT7:=hTc.no hX37
     have hs7:(strs l++ [.string (bs nm)])=strs (l++ [nm]):=by simp [strs]
     have hrd7:RdS u7 9 1 (.slice A7 (l.length+1) c7) (l++ [nm]).length (strs (l++ [nm])):=by
      rw [←hs7,List.length_append];exact hO7.rd
     have hO3':=hO3.no hX37
     refine zCl rfl (hrec r' rfl (l++ [nm]) hT7 hrd7 (by rw [List.length_append];simp only [List.length_cons,List.length_nil];omega) (lv:=lv+1) (by rw [hlv6];omega)) ?_
     rintro _ u8 ⟨K,kt,rfl,hK8,hkok,hkl,hks,hT8,hX8⟩
     refine ⟨_,rfl,?_⟩
     obtain ⟨AK,cK,rfl,_⟩:=hK8.form
     have hO8:=hO3'.tp hT7 hX8
     have hC8:Chg w u8 (· =bt):=(hC3.no hX37).trans hX8 (fun _ _ h=>h)
     have hs8:=hC8.size
     have hs37:=hX37.size
     have hs78:=hX8.size
     have hKu8:TreeOk u8 (fun b=>w.heap.size≤b∧(Value.slice A0 t.len c0).ownBlock≠some b) (.slice AK kt.len cK) kt:=TreeOk.under hO3 (B2:=u7.heap.size) (by have:=hC3.size;omega) (by omega) hK8.tree
     refine z_buildE #[.string (bs nm),nS,.string (bs []),nS,.slice AK kt.len cK] (want_L rfl) (by decide) rfl (by kernel_rfl) ?_
     refine zAl (fun u9 b9 hN9=> ?_)
     have hb9:Blk u9 b9 43 [.string ⟨#[]⟩,nS,.string ⟨#[]⟩,nS,nS]:=hN9.blk
     refine z_store (want_L rfl) rfl rfl rfl (by assumption) (by first|exact Nat.le_refl _|simp [Value.cells]) (by simp [Value.cells,Value.oneCell']) (fun u10 hU10=> ?_)
     have hb10:Blk u10 b9 43 [.string (bs nm),nS,.string (bs []),nS,.slice AK kt.len cK]:=hU10.blk
     have hX10:Chg u8 u10 No:=hN9.chg.upd hU10 (hN9.ge (Chg.refl _ No))
     have hT10:=hT8.no hX10
     have hO10:=hO8.no hX10
     have hK10:=hKu8.no hX10
     have hC10:Chg w u10 (· =bt):=hC8.no hX10
     have hLnE: ∀la:List At,LnS l (r'+1+1) t ⟨nm,la,[]⟩ kt:=fun la=>by
      obtain ⟨_,g2,g3,g4,g5⟩:=hkok
      refine ⟨fun h=>absurd hnl (by rw [show nm= [] from h];decide),fun _=>⟨(show∀a∈tIn,a∈tInl by decide) nm hnl,kids_inl hnl ⟨g3,g5 nm (by simp) hnl⟩,g2⟩,by omega,fun nm' h1 h2=>⟨fun he=> ?_,g5 nm' (by simp [h1]) h2⟩⟩
      have he:nm=nm':=he
      exact hin (he▸h1)
     have hdE: ∀la:List At,LN la→(∀a∈la,a.1∈lKey∧a.2∈lVal)→HdOk ⟨nm,la,[]⟩:=fun la h1 h2=>⟨hnm,h1,h2,(by decide:([]:List UInt8)∈lTxs)⟩
     have hsz4:=lnZ_div r'
     refine zz ?_
     refine zEq (r:= [97]) rfl rfl (fun hca=> ?_) (fun hca=> ?_)
     ·refine zz ?_
      refine z_bsE (strs lHref) (want_L rfl) (by decide) rfl (by decide) (by decide) (by kernel_rfl) (fun u11 b11 hN11=> ?_)
      have hT11:=hT10.no hN11.chg
      refine zP rfl ?_
      refine zCl rfl (next_calls hT11 3 (by decide) (by decide) rfl) ?_
      rintro _ u12 ⟨⟨kh,hkh,rfl⟩,hT12,hX12⟩
      refine ⟨_,rfl,?_⟩
      have hb12:=keepT hT11 hX12 _ _ _ (by decide) hN11.blk
      have hb912:=keepT hT11 hX12 _ _ _ (by decide) (hb10.no hN11.chg)
      have hO12:=(hO10.no hN11.chg).tp hT11 hX12
      have hK12:=(hK10.no hN11.chg).tp hT11 hX12
      have hC12:Chg w u12 (· =bt):=(hC10.no hN11.chg).trans hX12 (fun _ _ h=>h)
      have hgh:=(hb12.cell kh).trans (strs_get lHref kh hkh)
      have hmh:=getD_mem lHref kh hkh
      generalize lHref.getD kh []=hv at hgh hmh
      refine zIa rfl rfl (zL1 rfl (cell_at hgh (by omega)) ?_)
      refine z_buildE #[.string (bs [104,114,101,102]),.string (bs hv)] (want_L rfl) (by decide) rfl (by kernel_rfl) ?_
      refine z_bsE (encA [([104,114,101,102],hv)]) (want_L rfl) (by decide) rfl (by decide) (by decide) (by kernel_rfl) (fun u13 b13 hN13=> ?_)
      have hT13:=hT12.no hN13.chg
      have hO13:=hO12.no hN13.chg
      have hK13:=hK12.no hN13.chg
      have hb913:=hb912.no hN13.chg
      have hC13:Chg w u13 (· =bt):=hC12.no hN13.chg
      have hA13:AtS u13 (.slice (some ⟨b13,0,none⟩) 1 1) [([104,114,101,102],hv)]:=RdS.new hN13 rfl (encA_one _)
      refine zfa rfl ?_
      refine z_store (want_L rfl) rfl rfl rfl (by assumption) (by first|exact Nat.le_refl _|simp [Value.cells]) (by simp [Value.cells,Value.oneCell']) (fun u14 hU14=> ?_)
      have hb914:Blk u14 b9 43 [.string (bs nm),.slice (some ⟨b13,0,none⟩) 1 1,.string (bs []),nS,.slice AK kt.len cK]:=hU14.blk
      have h9w:u8.heap.size≤b9:=hN9.ge (Chg.refl _ No)
      have hX813:Chg u8 u13 (· =bt):=((hX10.no hN11.chg).mono (S':=(· =bt)) (fun _ _ h=>h.elim)).trans (hX12.no hN13.chg) (fun _ _ h=>h)
      have hX814:Chg u8 u14 (· =bt):=hX813.trans hU14.chg (fun k hk he=>by omega)
      have hO14:=hO8.tp hT8 hX814
      have hK14:=hKu8.tp hT8 hX814
      have hT14:Tp u14 B bt:=hT13.oth hU14.chg (fun he=>by obtain ⟨cs,hb⟩:=hT13.blk;exact hb.ne hb913 (by decide) he) (fun k _ hk=>by have:=hT0.ge;have:=hT0.lt;omega)
      have hC14:Chg w u14 (· =bt):=hC8.trans hX814 (fun _ _ h=>h)
      have hA14:AtS u14 (.slice (some ⟨b13,0,none⟩) 1 1) [([104,114,101,102],hv)]:=RdS.chg hA13 hU14.chg (fun b cells hb he=>hb.ne hb913 (by decide) he)
      have hdA:=hdE [([104,114,101,102],hv)] ⟨by simp,by simp⟩ (by
       intro a ha
       simp only [List.mem_cons,List.not_mem_nil,or_false] at ha
       subst ha
       refine ⟨(by decide:([104,114,101,102]:List UInt8)∈lKey),?_⟩
       show hv∈lVal
       unfold lVal;simp only [List.mem_append];exact .inl (.inr hmh))
      refine zz ?_
      refine z_bsE (encM [⟨nm,.slice (some ⟨b13,0,none⟩) 1 1,[],nS,.slice AK kt.len cK⟩]) (want_L rfl) (by decide) rfl (by decide) (by decide) (by kernel_rfl) (fun p1 pb hP=> ?_)
      refine z_push (h:=⟨nm,[([104,114,101,102],hv)],[]⟩) (k:=kt) (m:=⟨nm,.slice (some ⟨b13,0,none⟩) 1 1,[],nS,.slice AK kt.len cK⟩) (want_L rfl) (by decide) rfl rfl hO14 ⟨rfl,hA14,rfl,isSl_nil⟩ hK14 (by have:=hC14.size;omega) hP (by omega) (fun p2 q2 hP2 hPC=> ?_)
      have hPT:=hT14.own hO14 (by have:=hT0.lt;have:=hT0.ge;omega) hPC
      have hPW:=Chg.own hC14 hO14 (Nat.le_refl _) hPC
      obtain ⟨pA,pc,hpv,_⟩:=hP2.form
      subst hpv
      refine zz ?_
      exact zk_midX (.slice pA _ pc,t.snoc ⟨nm,[([104,114,101,102],hv)],[]⟩ kt) ⟨hP2,AT.snoc_okp hok hdA hkok.1.1 mem0 (hLnE _),by rw [AT.snoc_len,hlen],by rw [AT.snoc_size];omega,hPT,hPW⟩ ⟨rfl,rfl,rfl,rfl,rfl,rfl,trivial⟩
     ·have hdA:=hdE [] ⟨by simp,by simp⟩ (by simp)
      refine zz ?_
      refine z_bsE (encM [⟨nm,nS,[],nS,.slice AK kt.len cK⟩]) (want_L rfl) (by decide) rfl (by decide) (by decide) (by kernel_rfl) (fun p1 pb hP=> ?_)
      refine z_push (h:=⟨nm,[],[]⟩) (k:=kt) (m:=⟨nm,nS,[],nS,.slice AK kt.len cK⟩) (want_L rfl) (by decide) rfl rfl hO10 ⟨rfl,AtS.nil _,rfl,isSl_nil⟩ hK10 (by have:=hC10.size;omega) hP (by omega) (fun p2 q2 hP2 hPC=> ?_)
      have hPT:=hT10.own hO10 (by have:=hT0.lt;have:=hT0.ge;omega) hPC
      have hPW:=Chg.own hC10 hO10 (Nat.le_refl _) hPC
      obtain ⟨pA,pc,hpv,_⟩:=hP2.form
      subst hpv
      refine zz ?_
      exact zk_midX (.slice pA _ pc,t.snoc ⟨nm,[],[]⟩ kt) ⟨hP2,AT.snoc_okp hok hdA hkok.1.1 mem0 (hLnE _),by rw [AT.snoc_len,hlen],by rw [AT.snoc_size];omega,hPT,hPW⟩ ⟨rfl,rfl,rfl,rfl,rfl,rfl,trivial⟩
theorem line_calls: ∀r,r≤6→LineC r
 |0,h=>line_body 0 h (fun r' hr=>by omega)
 |r+1,h=>line_body (r+1) h (fun r' hr=>by
   obtain rfl:r=r':=by omega
   exact line_calls r (by omega))
theorem AT.last: ∀t:AT,0<t.len→ ∃(t0:AT) (x:Hd) (k:AT),t=t0.snoc x k
 | .nil,h=>by simp [AT.len] at h
 | .cons x k .nil,_=>⟨.nil,x,k,rfl⟩
 | .cons x k (.cons y k' r),_=>by
  obtain ⟨t0,z,kz,e⟩:=AT.last (.cons y k' r) (by simp [AT.len])
  exact ⟨.cons x k t0,z,kz,by rw [e];rfl⟩
theorem AT.plain_last: ∀{t:AT} {x:Hd} {k:AT},(t.snoc x k).plain→x.text∈lTx0
 | .nil,x,k,h=>h.1
 | .cons y k' r,x,k,h=>AT.plain_last (t:=r) h.2
theorem AT.ok_last: ∀{t:AT} {x:Hd} {k:AT},(t.snoc x k).ok→t.ok∧HdOk x∧k.ok
 | .nil,x,k,h=>⟨trivial,h.1,h.2.1⟩
 | .cons y k' r,x,k,h=>by
  obtain ⟨h1,h2,h3⟩:=AT.ok_last (t:=r) h.2.2
  exact ⟨⟨h.1,h.2.1,h1⟩,h2,h3⟩
theorem RowsOk.last {w:World} {o:Nat→Prop}: ∀{t:AT} {x:Hd} {k:AT} {ms:List MA},RowsOk w o (t.snoc x k) ms→ ∃q m,ms=q++ [m]∧RowsOk w o t q∧HO w m x∧TreeOk w o m.kids k
 | .nil,x,k,ms,h=>by
  obtain ⟨m,q,h1,h2,h3,h4⟩:=h
  have:q= []:=h4
  subst this
  exact ⟨[],m,h1,rfl,h2,h3⟩
 | .cons y k' r,x,k,ms,h=>by
  obtain ⟨m,q,h1,h2,h3,h4⟩:=h
  obtain ⟨q',m',h5,h6,h7,h8⟩:=RowsOk.last (t:=r) h4
  exact ⟨m::q',m',by rw [h1,h5];rfl,⟨m,q',rfl,h2,h3,h6⟩,h7,h8⟩
theorem lay_last (q:List MA) (m:MA) (tx:List UInt8):Z.lay (encM (q++ [m])) (q.length*5+2) [.string (bs tx)]=encM (q++ [{m with text:=tx}]):=by
 unfold Z.lay
 rw [encM_app,encM_app]
 have hq:=encM_len q
 have e1:(encM q++encM [m]).take (q.length*5+2)=encM q++(encM [m]).take 2:=by
  rw [List.take_append,hq]
  rw [List.take_of_length_le (by rw [hq];omega)]
  congr 2;omega
 have e2:(encM q++encM [m]).drop (q.length*5+2+ [Value.string (bs tx)].length)=(encM [m]).drop 3:=by
  rw [List.drop_append,hq]
  rw [List.drop_of_length_le (by rw [hq];simp only [List.length_cons,List.length_nil];omega)]
  simp only [List.nil_append,List.length_cons,List.length_nil]
  congr 1;omega
 rw [e1,e2]
 simp [encM]
theorem Out.retext {B:Nat} {w:World} {vo:Value} {t:AT} {x:Hd} {k:AT} (h:Out B w vo (t.snoc x k)): ∃b c cells,vo= .slice (some ⟨b,0,none⟩) (t.len+1) c∧Blk w b 43 cells∧t.len*5+3≤cells.length∧
  w.cell? ⟨b,t.len*5,none⟩=some (.string (bs x.name))∧w.cell? ⟨b,t.len*5+2,none⟩=some (.string (bs x.text))∧B≤b∧
  ∀tx w',Upd w w' b 43 (Z.lay cells (t.len*5+2) [.string (bs tx)])→Out B w' vo (t.snoc {x with text:=tx} k):=by
 obtain ⟨ms,h1,h2,h3⟩:=h
 have hlen:=Out.len B h3
 rw [AT.snoc_len] at hlen
 obtain ⟨q,m,rfl,h6,h7,h8⟩:=RowsOk.last h3
 have hql:q.length=t.len:=by rw [List.length_append] at hlen;simpa using hlen
 obtain ⟨b,c,junk,hv,hc1,_,hb,hbl⟩: ∃b cap junk,vo= .slice (some ⟨b,0,none⟩) (q++ [m]).length cap∧(q++ [m]).length≤cap∧cap≤maxLen∧Blk w b 43 (encM (q++ [m])++junk)∧(encM (q++ [m])++junk).length=cap*5:=by
  rcases h1.cases.2 with ⟨_,h0,_⟩|h0
  ·simp at h0
  ·exact h0
 subst hv
 have hel:=encM_len (q++ [m])
 rw [List.length_append] at hel
 obtain ⟨cells,hbc,hlc,hcc,hup⟩:=Own.lay (o:=t.len*5+2) (vs:= [.string (bs [])]) h1 (by rw [hel];simp only [List.length_cons,List.length_nil];omega) (by simp [Value.oneCell'])
 have hinj:=hb.inj hbc
 have hce:cells=encM (q++ [m])++junk:=by have:=hinj.2;exact this.symm
 refine ⟨b,c,cells,by rw [hlen],hbc,by simpa using hlc,?_,?_,h2 b rfl,fun tx w' hU=> ?_⟩
 ·rw [hbc.cell]
  refine hcc _ _ ?_
  rw [encM_app,List.getElem?_append_right (by rw [encM_len];omega),encM_len,hql]
  simp [encM,h7.1]
 ·rw [hbc.cell]
  refine hcc _ _ ?_
  rw [encM_app,List.getElem?_append_right (by rw [encM_len];omega),encM_len,hql]
  simp [encM,h7.2.2.1]
 ·obtain ⟨cells2,hbc2,_,_,hup2⟩:=Own.lay (o:=t.len*5+2) (vs:= [.string (bs tx)]) h1 (by rw [hel];simp only [List.length_cons,List.length_nil];omega) (by simp [Value.oneCell'])
  have hc2:cells=cells2:=(hbc.inj hbc2).2
  subst hc2
  have hO:=hup2 w' hU
  rw [←hql,lay_last] at hO
  have hne: ∀b' cs,Blk w b' 43 cs→(B≤b'∧(Value.slice (some ⟨b,0,none⟩) (q++ [m]).length c).ownBlock≠some b')→ ¬b'=b:=fun b' cs _ hq he=>hq.2 (by rw [he];rfl)
  have h6':=RowsOk.chg hU.chg hne (fun b' cs hb' he=>hb'.ne hb (by decide) he) _ _ h6
  have h7a:AtS w' m.attrs x.attrs:=RdS.chg h7.2.1 hU.chg (fun b' cs hb' he=>hb'.ne hb (by decide) he)
  have h8':=h8.chg hU.chg hne (fun b' cs hb' he=>hb'.ne hb (by decide) he)
  refine ⟨q++ [{m with text:=tx}],by simpa using hO,h2,RowsOk.snoc (m:={m with text:=tx}) (x:={x with text:=tx}) ⟨h7.1,h7a,rfl,h7.2.2.2⟩ h8' _ _ h6'⟩
theorem tx_x: ∀x∈lTx0,x++ [120]∈lTxs:=by decide
theorem full_calls {w:World} {B bt:Nat} (hT0:Tp w B bt):Calls Tryz.prog 38 [.pointer (some ⟨bt,0,none⟩)].toArray w fun e w'=> ∃vo t,e= .returned vo∧Out w.heap.size w' vo t∧t.okf∧t.size≤1093∧Tp w' B bt∧Chg w w' (· =bt):=by
 refine zCz 33 Tryz.func38 ?_
 refine zz ?_
 refine zCl rfl (line_calls 5 (by decide) [] hT0 RdS.nil (by decide) (lv:=1) (by decide)) ?_
 rintro _ w1 ⟨vo,t,rfl,hO,hok,hl,hsz,hT,hC⟩
 refine ⟨_,rfl,?_⟩
 have hz5:lnZ 5=1092:=by decide
 rw [hz5] at hsz
 have hws:=hC.size
 obtain ⟨t0,x,k,rfl⟩:=t.last hl
 have hpl:=AT.plain_last hok.1.2
 obtain ⟨hk0,hkx,hkk⟩:=AT.ok_last hok.1.1
 obtain ⟨_,hsh,hln,hdp,_⟩:=hok
 rw [deepA_snoc] at hdp
 obtain ⟨b,c,cells,rfl,hb,hlen,hc0,hc2,hBb,hup⟩:=hO.retext
 have hls:=(t0.snoc x k).len_size
 rw [AT.snoc_len] at hls
 have e0:(((t0.len+1:Nat):Int) - 1).toNat=t0.len:=by omega
 refine zz ?_
 refine zL1 rfl (cell_at hc0 (by omega)) ?_
 refine zEq (r:= []) rfl rfl (fun hc=> ?_) (fun hc=> ?_)
 ·refine zz ?_
  refine zL1 rfl (cell_at hc2 (by omega)) ?_
  have htl:=tx_len _ hkx.2.2.2
  refine zz ?_
  refine z_store (want_L rfl) rfl rfl (by rfl) hb (by omega) (by simp [Value.cells,Value.oneCell']) (fun u2 hU2=> ?_)
  have e3:0+(((t0.len+1:Nat):Int) - 1).toNat*5+2=t0.len*5+2:=by omega
  rw [e3] at hU2
  have hO2:=hup (x.text++ [120]) u2 hU2
  have hkx2:HdOk {x with text:=x.text++ [120]}:=⟨hkx.1,hkx.2.1,hkx.2.2.1,tx_x _ hpl⟩
  refine zz ?_
  refine zk_ret1 (.inr rfl) rfl rfl ⟨_,_,rfl,hO2,⟨AT.snoc_ok hk0 hkx2 hkk,shp_retext (by simp) t0 hsh,lineA_retext t0 hln,by rw [deepA_snoc];omega⟩,by rw [AT.snoc_size] at hsz ⊢;omega,?_,?_⟩
  ·exact hT.oth hU2.chg (fun he=>by obtain ⟨cs,h30⟩:=hT.blk;exact h30.ne hb (by decide) he) (fun k _ hk=>by have:=hT0.lt;have:=hT0.ge;omega)
  ·exact hC.trans hU2.chg (fun k _ hk=>by omega)
 ·refine zz ?_
  refine z_buildE #[.string (bs []),nS,.string (bs [120]),nS,nS] (want_L rfl) (by decide) rfl (by kernel_rfl) ?_
  refine z_bsE (encM [⟨[],nS,[120],nS,nS⟩]) (want_L rfl) (by decide) rfl (by decide) (by decide) (by kernel_rfl) (fun p1 pb hP=> ?_)
  refine z_push (h:=⟨[],[],[120]⟩) (k:= .nil) (m:=⟨[],nS,[120],nS,nS⟩) (want_L rfl) (by decide) rfl rfl hO ⟨rfl,AtS.nil _,rfl,isSl_nil⟩ TreeOk.nil hws hP (by rw [AT.snoc_len];omega) (fun p2 q2 hP2 hPC=> ?_)
  have hd:HdOk ⟨[],[],[120]⟩:=⟨by decide,⟨by simp,by simp⟩,by simp,by decide⟩
  refine zz ?_
  exact zk_ret1 (.inr rfl) rfl rfl ⟨_,_,rfl,hP2,⟨AT.snoc_ok (AT.snoc_ok hk0 hkx hkk) hd trivial,shp_snoc ⟨fun _=>by decide,fun h=>absurd rfl h⟩ _ hsh,lineA_snoc (.inl rfl) _ hln (fun _=>lastNT_snoc hc t0),by rw [deepA_snoc,deepA_snoc];show max _ (1+0)≤7;omega⟩,by rw [AT.snoc_size];simp only [AT.size];omega,hT.own hO (by have:=hT0.lt;have:=hT0.ge;omega) hPC,Chg.own hC hO (Nat.le_refl _) hPC⟩
def blZ:Nat→Nat
 |0=>4000
 |d+1=>13*blZ d
def BlkC (lv d:Nat):Prop:= ∀{w:World} {B bt:Nat} {li:Int},Tp w B bt→li=(lv:Int)→Calls Tryz.prog 19 [.pointer (some ⟨bt,0,none⟩),.int .i64 li].toArray w fun e w'=> ∃vo t,e= .returned vo∧Out w.heap.size w' vo t∧t.okc tBlk (4*d+10)∧t.size≤blZ d∧Tp w' B bt∧Chg w w' (· =bt)∧0<t.len
def ItemC (lv d:Nat):Prop:= ∀{w:World} {B bt:Nat} {li:Int},Tp w B bt→li=(lv:Int)→Calls Tryz.prog 39 [.pointer (some ⟨bt,0,none⟩),.int .i64 li].toArray w fun e w'=> ∃vo t,e= .returned vo∧Out w.heap.size w' vo t∧t.oki (4*d+10)∧t.size≤blZ d∧Tp w' B bt∧Chg w w' (· =bt)
theorem blZ_ge: ∀d,4000≤blZ d
 |0=>Nat.le_refl _
 |d+1=>by have:=blZ_ge d;simp only [blZ];omega
theorem item_calls {lv d:Nat} (hl:lv≤100) (h:BlkC (lv+1) d):ItemC lv d:=by
 intro w B bt li hT0 hli
 have hz:=blZ_ge d
 refine zCz 17 Tryz.func39 ?_
 refine zz ?_
 refine zCl rfl (next_calls hT0 4 (by decide) (by decide) rfl) ?_
 rintro _ w1 ⟨⟨k,hk,rfl⟩,hT,hC⟩
 refine ⟨_,rfl,?_⟩
 have hws:=hC.size
 by_cases h0:k=0
 ·subst h0
  refine zz ?_
  exact zk_ret1 (.inr rfl) rfl rfl ⟨_,.nil,rfl,Out.nil,⟨trivial,trivial,.inl trivial,Nat.zero_le _⟩,by simp [AT.size],hT,hC⟩
 by_cases h1:k=1
 ·subst h1
  refine zz ?_
  refine zCl rfl (h (li:=li+1) hT (by omega)) ?_
  rintro _ w2 ⟨vo,t,rfl,hO,hok,hsz,hT2,hC2,_⟩
  refine ⟨_,rfl,?_⟩
  refine zz ?_
  exact zk_ret1 (.inr rfl) rfl rfl ⟨_,t,rfl,hO.less hws,⟨hok.1,hok.2.1,.inl hok.2.2.1,hok.2.2.2⟩,hsz,hT2,hC.trans hC2 (fun _ _ h=>h)⟩
 ·refine zz ?_
  refine zCl rfl (line_calls 5 (by decide) [] hT RdS.nil (by decide) (lv:=1) (by decide)) ?_
  rintro _ w2 ⟨vo,t,rfl,hO,hok,_,hsz,hT2,hC2⟩
  refine ⟨_,rfl,?_⟩
  have hz5:lnZ 5=1092:=by decide
  refine zz ?_
  exact zk_ret1 (.inr rfl) rfl rfl ⟨_,t,rfl,hO.less hws,⟨hok.1.1,hok.2.1,.inr hok.2.2.1,by have:=hok.2.2.2.1;omega⟩,by omega,hT2,hC.trans hC2 (fun _ _ h=>h)⟩
theorem titled_calls {w:World} {A F K:Value} {nm tx:List UInt8} {k:AT} (hA:isSl A) (hF:isSl F) (hK:TreeAt false w K k) (hsz:k.size≤1000000000000):
  Calls Tryz.prog 67 [.agg #[.string (bs nm),A,.string (bs tx),F,K]].toArray w fun e w'=>(∃q:Bool,e= .returned (.bool q))∧Chg w w' No:=by
 obtain ⟨A1,m1,c1,rfl⟩:=hA
 obtain ⟨A2,m2,c2,rfl⟩:=hF
 obtain ⟨AK,cK,rfl,hcK⟩:=hK.form
 have hls:=k.len_size
 refine zCz 48 Tryz.func67 ?_
 refine zS (zR ?_)
 refine zBx rfl (fun w1 b1 hN1=> ?_)
 have hb1:Blk w1 b1 43 [.string (bs nm),.slice A1 m1 c1,.string (bs tx),.slice A2 m2 c2,.slice AK k.len cK]:=hN1.blk
 refine zz ?_
 refine zc_loopW (ι:=Nat) (fun i u=> [(1,.pointer (some ⟨b1,0,none⟩)),(3,.int .i64 i)]) (fun i u=>i≤k.len∧Chg w1 u No) (fun i u=>k.len - i) 0 ⟨Nat.zero_le _,Chg.refl _ _⟩ ?_ ?_
 ·exact ⟨rfl,rfl,trivial⟩
 rintro i u ⟨hi,hC⟩
 have hbu:=hb1.no hC
 by_cases hlt:i<k.len
 rotate_left
 ·obtain rfl:i=k.len:=by omega
  refine zz ?_
  exact zk_ret1 (.inr rfl) rfl rfl ⟨⟨false,rfl⟩,hN1.chg.no hC⟩
 obtain ⟨b,o,c',x,k2,r,A',F',K',e1,hv,hN,hAx,hFx,hK2⟩:=((hK.no hN1.chg).no hC).at_ i hlt
 cases hv
 obtain ⟨AK2,cK2,rfl,hcK2⟩:=hK2.form
 have hsz1:=k.drop_size i
 rw [e1] at hsz1
 simp only [AT.size] at hsz1
 have hls2:=k2.len_size
 refine zz ?_
 refine zc_loopW (ι:=Nat) (fun j v=> [(1,.pointer (some ⟨b1,0,none⟩)),(3,.int .i64 i),(4,.int .i64 j)]) (fun j v=>j≤k2.len∧Chg u v No) (fun j v=>k2.len - j) 0 ⟨Nat.zero_le _,Chg.refl _ _⟩ ?_ ?_
 ·exact ⟨rfl,rfl,rfl,trivial⟩
 rintro j v ⟨hj,hCv⟩
 have hbv:=hbu.no hCv
 have hNv:=hN.no hCv
 have hc4:=hNv.c4
 by_cases hltj:j<k2.len
 rotate_left
 ·obtain rfl:j=k2.len:=by omega
  refine zz ?_
  exact zk_loopW (i+1) ⟨by omega,hC.no hCv⟩ (by omega) ⟨rfl,get_int rfl (by simp),trivial⟩
 obtain ⟨b3,o3,c3',x3,k3,r3,A3,F3,K3,e3,hv3,hN3,hAx3,⟨FA,Fm,Fc,rfl⟩,hK3⟩:=(hK2.no hCv).at_ j hltj
 cases hv3
 obtain ⟨AA3,cA3,rfl,_⟩:=hAx3.form
 obtain ⟨AK3,cK3,rfl,hcK3⟩:=hK3.form
 have hsz3:=k2.drop_size j
 rw [e3] at hsz3
 simp only [AT.size] at hsz3
 have hls3:=k3.len_size
 refine zz ?_
 refine z_loadA (by rfl) (want_L rfl) (by decide) rfl (hN3.agg (by omega)) ?_
 refine zAl (fun v1 b5 hN5=> ?_)
 have hb5:Blk v1 b5 43 [.string ⟨#[]⟩,nS,.string ⟨#[]⟩,nS,nS]:=hN5.blk
 refine z_store (want_L rfl) rfl rfl rfl (by assumption) (by first|exact Nat.le_refl _|simp [Value.cells]) (by simp [Value.cells,Value.oneCell']) (fun v2 hU5=> ?_)
 have hb52:Blk v2 b5 43 [.string (bs x3.name),.slice AA3 x3.attrs.length cA3,.string (bs x3.text),.slice FA Fm Fc,.slice AK3 k3.len cK3]:=hU5.blk
 have hX5:Chg v v2 No:=hN5.chg.upd hU5 (hN5.ge (Chg.refl _ No))
 refine zz ?_
 refine zc_loopW (ι:=Nat) (fun m z=> [(1,.pointer (some ⟨b1,0,none⟩)),(3,.int .i64 i),(4,.int .i64 j),(5,.pointer (some ⟨b5,0,none⟩)),(6,.int .i64 m)]) (fun m z=>m≤k3.len∧Chg v2 z No) (fun m z=>k3.len - m) 0 ⟨Nat.zero_le _,Chg.refl _ _⟩ ?_ ?_
 ·exact ⟨rfl,rfl,rfl,rfl,rfl,trivial⟩
 rintro m z ⟨hm,hCz⟩
 have hb5z:=hb52.no hCz
 by_cases hltm:m<k3.len
 rotate_left
 ·obtain rfl:m=k3.len:=by omega
  refine zz ?_
  exact zk_loopW (j+1) ⟨by omega,(hCv.no hX5).no hCz⟩ (by omega) ⟨rfl,rfl,get_int rfl (by simp),trivial⟩
 obtain ⟨b7,o7,c7,x7,k7,r7,A7,F7,K7,e7,hv7,hN7,_⟩:=((hK3.no hX5).no hCz).at_ m hltm
 cases hv7
 have hc70:=hN7.c0
 refine zz ?_
 refine zEq (r:= [116,104]) rfl rfl (fun hc=> ?_) (fun hc=> ?_)
 ·refine zz ?_
  exact zk_ret1 (.inr rfl) rfl rfl ⟨⟨true,rfl⟩,((hN1.chg.no hC).no hCv).no (hX5.no hCz)⟩
 ·refine zz ?_
  exact zk_loopW (m+1) ⟨by omega,hCz⟩ (by omega) ⟨rfl,rfl,rfl,rfl,get_int rfl (by simp),trivial⟩
end Go.Proofs.YtbcmiijollpgeaaGreat.T
namespace Go.Z
open Go
section
variable {P : Program} {n : Nat} {e : Env} {w : World} {Q : Exit → Act → World → Prop}
structure LkK (ops:Array Oper) (n:Nat) (e0:Env) (G:Nat→Value→World→Prop) (T:World→Prop) (D K:Nat→Prop) (a:Act) (w:World):Prop where
 ok:Ok n e0 a
 t:T w
 dep: ∀j,D j→ ∀d,dstOf ops j=some d→ ∃v,a.tmps[d]? =some v∧(¬K j→G j v w)
def StepK (P:Program) (ops:Array Oper) (n m:Nat) (e0:Env) (G:Nat→Value→World→Prop) (kill:Nat→Nat) (T:Array Bool→World→Prop) (Q:Exit→Act→World→Prop) (i:Nat):Prop:=
 ∀b a w,b.size=ops.size→b.getD i false=false→(∀k j,b.getD k false=true→waits ops k j=true→b.getD j false=true)→LkK ops n e0 G (T b) (fun j=>waits ops i j=true) (fun j=> ¬(kill j=i∨m≤kill j)) a w→ ∃d,dstOf ops i=some d∧wpOp P ops (NP Q) i (fun a' w'=> ∃v,a'=a.put (some d) v∧G i v w'∧T (b.setIfInBounds i true) w'∧ ∀j u,j≠i→kill j≠i→G j u w→G j u w') a w
theorem LkK.put {ops:Array Oper} {e0:Env} {G:Nat→Value→World→Prop} {kill:Nat→Nat} {T T':World→Prop} {m:Nat} (hok:okDst (e0.map Prod.fst) n m ops=true) {D K:Nat→Prop} (hD: ∀j,D j→j<m) {a:Act} {w w':World} (h:LkK ops n e0 G T D K a w) {i:Nat} (hi:i<m) (hni: ¬D i) {d:Tmp} (hd:dstOf ops i=some d) {v:Value}
  (hG:G i v w') (hT:T' w') (hf: ∀j u,j≠i→kill j≠i→G j u w→G j u w'):LkK ops n e0 G T' (fun j=>D j∨j=i) (fun j=>K j∨kill j=i) (a.put (some d) v) w':=by
 obtain ⟨d',hd',hdn,hdk,hdo⟩:=okDst_at hok hi
 rw [hd] at hd';cases hd'
 have hsz:=h.ok.size
 refine ⟨⟨h.ok.defers,by simp [Act.put,hsz],fun k u hk=> ?_⟩,hT,fun j hj dj hdj=> ?_⟩
 ·have hne:d≠k:=fun he=>hdk (he▸get_keys e0 k u hk)
  simp only [Act.put,Array.getElem?_setIfInBounds_ne hne]
  exact h.ok.at_ k u hk
 ·rcases hj with hj|rfl
  ·obtain ⟨u,h1,h2⟩:=h.dep j hj dj hdj
   have hne:d≠dj:=fun he=>hdo j (hD j hj) (fun hji=>hni (hji▸hj)) (he▸hdj)
   exact ⟨u,by simp only [Act.put,Array.getElem?_setIfInBounds_ne hne];exact h1,fun hk=>hf j u (fun he=>hni (he▸hj)) (fun he=>hk (.inr he)) (h2 (fun he=>hk (.inl he)))⟩
  ·rw [hd] at hdj;cases hdj
   exact ⟨v,by simp [Act.put,hsz,hdn],fun _=>hG⟩
theorem zc_drawK {id:Nat} {l:List Oper} (m:Nat) (G:Nat→Value→World→Prop) (kill:Nat→Nat) (T:Array Bool→World→Prop) (e0:Env) (hm:P.follows .mixedOrders=true) (hok:okDst (e0.map Prod.fst) n m l.toArray=true) (hfw:fwd l.toArray=true) (hsub:Sub e0 e) (hT: ∀w',Chg w w' No→w'.heap=w.heap→T (Array.replicate l.toArray.size false) w')
  (hstep: ∀i,i<m→StepK P l.toArray n m e0 G kill T Q i) (hmz:m≤l.toArray.size) (hlast:m<l.toArray.size→m+1=l.toArray.size∧lastOk l.toArray m=true)
  (hfin: ∀b a w',LkK l.toArray n e0 G (T b) (fun j=>j<m) (fun j=> ¬m≤kill j) a w'→if m<l.toArray.size then wpOp P l.toArray (NP Q) m (NP Q .normal) a w' else NP Q .normal a w'):ZC P n (.region id l.toArray true) e w Q:=by
 unfold ZC
 intro a ha
 refine wp_mono (wp_region_any (Q:=NP Q) hm ?_) NP.le
 refine wpAny_inv (fun b a w=>(b.getD m false=false∧(∀k j,b.getD k false=true→waits l.toArray k j=true→b.getD j false=true)∧LkK l.toArray n e0 G (T b) (fun j=>j<m∧b.getD j false=true) (fun j=>b.getD (kill j) false=true) a w)∨(b.getD m false=true∧(∀j,j<m→b.getD j false=true)∧NP Q .normal a w)) ?_ ?_ _ _ _ _ (by simp) (by simp [List.count_replicate]) ?_
 ·intro b a w i hsz hi h
  obtain ⟨h0,o,ho,_⟩:=mem_ready.1 hi
  have hlt:i<l.toArray.size:=(Array.getElem?_eq_some_iff.1 ho).1
  have hb:b.getD i false=false:=by
   have h1:i<b.size:=by omega
   simpa [h1] using h0
  rcases h with ⟨hbm,hcl,h⟩|⟨hbm,hall,_⟩
  ·by_cases him:i<m
   ·have hni: ¬(i<m∧b.getD i false=true):=fun hh=>by rw [hb] at hh;cases hh.2
    have hjm: ∀j,waits l.toArray i j=true→j<m:=fun j hj=>by
     have hfi:=List.all_eq_true.1 hfw i (List.mem_range.2 hlt)
     simp only [ho] at hfi
     simp only [waits,ho] at hj
     obtain ⟨e,he,hbe⟩:=Array.any_eq_true'.1 hj
     simp only [Bool.and_eq_true,beq_iff_eq] at hbe
     have h3:=Array.all_eq_true_iff_forall_mem.1 hfi e he
     have h4:e.on<i:=by simpa using h3
     omega
    have hkl: ∀j,(kill j=i∨m≤kill j)→b.getD (kill j) false=false:=fun j hj=>by
     rcases hj with hj|hj
     ·rw [hj];exact hb
     ·rcases Nat.lt_or_ge (kill j) b.size with h'|h'
      ·have:kill j=m:=by
        have:=hlast (by omega)
        omega
       rw [this];exact hbm
      ·simp [Array.getElem?_eq_none h']
    obtain ⟨d,hd,hw⟩:=hstep i him b a w hsz hb hcl ⟨h.ok,h.t,fun j hj d hd=>by
     obtain ⟨v,h1,h2⟩:=h.dep j ⟨hjm j hj,waits_of hi hj⟩ d hd
     exact ⟨v,h1,fun hk=>h2 (fun he=>by rw [hkl j (Classical.not_not.1 hk)] at he;cases he)⟩⟩
    refine wpOp_mono (fun a' w' ⟨v,ha',hG,hT',hf⟩=> .inl ⟨?_,?_,?_⟩) hw
    ·rw [gd_ne (show i≠m by omega)];exact hbm
    ·intro k j hk hw'
     have hji:j≠i→(b.setIfInBounds i true).getD j false=b.getD j false:=fun h=>gd_ne (Ne.symm h) false
     by_cases hj:j=i
     ·subst hj
      have h3:j<b.size:=by omega
      simp [h3]
     ·rw [hji hj]
      by_cases hk':k=i
      ·subst hk';exact waits_of hi hw'
      ·rw [gd_ne (Ne.symm hk')] at hk
       exact hcl k j hk hw'
    ·subst ha'
     have:=LkK.put hok (fun j hj=>hj.1) h him hni hd hG hT' hf
     refine ⟨this.ok,this.t,fun j hj dj hdj=> ?_⟩
     obtain ⟨v,h1,h2⟩:=this.dep j (by
      by_cases hji:j=i
      ·exact .inr hji
      ·refine .inl ⟨hj.1,?_⟩
       have:=hj.2
       rwa [gd_ne (Ne.symm hji)] at this) dj hdj
     refine ⟨v,h1,fun hk=>h2 (fun he=>hk ?_)⟩
     rcases he with he|he
     ·by_cases hki:i=kill j
      ·rw [←hki] at he;rw [hb] at he;cases he
      ·rw [gd_ne hki];exact he
     ·rw [he]
      have h3:i<b.size:=by omega
      simp [h3]
   ·have hml:m<l.toArray.size:=by omega
    obtain ⟨h5,h6⟩:=hlast hml
    obtain rfl:i=m:=by omega
    have hall: ∀j,j<i→b.getD j false=true:=fun j hj=>waits_of hi (List.all_eq_true.1 h6 j (List.mem_range.2 hj))
    have hkl: ∀j,i≤kill j→b.getD (kill j) false=false:=fun j hj=>by
     rcases Nat.lt_or_ge (kill j) b.size with h'|h'
     ·have:kill j=i:=by omega
      rw [this];exact hbm
     ·simp [Array.getElem?_eq_none h']
    have h7:=hfin b a w ⟨h.ok,h.t,fun j hj d hd=>by
     obtain ⟨v,h1,h2⟩:=h.dep j ⟨hj,hall j hj⟩ d hd
     exact ⟨v,h1,fun hk=>h2 (fun he=>by rw [hkl j (Classical.not_not.1 hk)] at he;cases he)⟩⟩
    rw [if_pos hml] at h7
    refine wpOp_mono (fun a' w' hq=> .inr ⟨?_,fun j hj=> ?_,hq⟩) h7
    ·have h1:i<b.size:=by omega
     simp [h1]
    ·have:=hall j hj
     rwa [gd_ne (show i≠j by omega)]
  ·exfalso
   rcases Nat.lt_trichotomy i m with h1|h1|h1
   ·rw [hall i h1] at hb;cases hb
   ·subst h1;rw [hbm] at hb;cases hb
   ·have:=(hlast (by omega)).1;omega
 ·intro b a w hsz h0 h
  rcases h with ⟨hbm,_,h⟩|⟨_,_,hq⟩
  ·have hlv:=fwd_live hfw hsz h0
   have hml: ¬m<l.toArray.size:=fun hh=>by
    have:=hlv m hh
    rw [hbm] at this;cases this
   have hkl: ∀j,m≤kill j→b.getD (kill j) false=false:=fun j hj=>by
    have h':b.size≤kill j:=by omega
    simp [Array.getElem?_eq_none h']
   have:=hfin b a w ⟨h.ok,h.t,fun j hj d hd=>by
    obtain ⟨v,h1,h2⟩:=h.dep j ⟨hj,hlv j (by omega)⟩ d hd
    exact ⟨v,h1,fun hk=>h2 (fun he=>by rw [hkl j (Classical.not_not.1 hk)] at he;cases he)⟩⟩
   rwa [if_neg hml] at this
  ·exact hq
 ·refine .inl ⟨gd_rep _ _,(by intro k j hk;rw [gd_rep] at hk;cases hk),ha.sub hsub,hT _ ⟨rfl,rfl,rfl,Nat.le_refl _,fun _ _ _=>rfl⟩ rfl,fun j hj=> ?_⟩
  have:=hj.2
  rw [gd_rep] at this;cases this
end
end Go.Z
namespace Go.Proofs.YtbcmiijollpgeaaGreat.T
open Go Go.Z Go.Proofs
def lTd:List (List UInt8):= [[116,100],[116,100],[116,104]]
theorem lTd_nm: ∀x∈lTd,x∈lNm:=by decide
def KidOk (w:World) (Bz N:Nat) (QK:AT→Prop) (vC K:Value) (kt:AT):Prop:=TreeOk w (fun b=>Bz≤b∧vC.ownBlock≠some b) K kt∧QK kt∧kt.size≤N
theorem KidOk.tp {w w':World} {Bz N B bt:Nat} {QK:AT→Prop} {vC K:Value} {kt:AT} (h:KidOk w Bz N QK vC K kt) (hT:Tp w B bt) (hc:Chg w w' (· =bt)):KidOk w' Bz N QK vC K kt:=⟨h.1.tp hT hc,h.2⟩
theorem KidOk.form {w:World} {Bz N:Nat} {QK:AT→Prop} {vC K:Value} {kt:AT} (h:KidOk w Bz N QK vC K kt): ∃A c,K= .slice A kt.len c∧kt.len≤c:=h.1.form
theorem hdN {nm:List UInt8} (h:nm∈lNm):HdOk ⟨nm,[],[]⟩:=⟨h,⟨by simp,by simp⟩,by simp,(by decide:([]:List UInt8)∈lTxs)⟩
abbrev mE (nm:List UInt8) (K:Value):MA:=⟨nm,nS,[],nS,K⟩
theorem wo_push {n:Nat} {e:Env} {w:World} {Q:Exit→Act→World→Prop} {ops:Array Oper} {K0:Act→World→Prop} {i:Nat} {d:Tmp} {a:Act} {ty:TypeId} {pos:String} {aft:Array Edge} {g:Option (Nat×Bool)} {s x:Operand} {Bz N:Nat} {QK:AT→Prop} {vC xv K:Value} {tC kt:AT} {nm:List UInt8}
  (hi:ops[i]? =some ⟨some d,.call {callee:= .builtin .append,args:= #[s,x],argTypes:= #[24,24]},ty,pos,aft,g⟩) (hw:Want ops e g) (ha:Ok n e a) (hs:ev e s=some vC) (hx:ev e x=some xv)
  (hO:Out Bz w vC tC) (hr:RdS w 43 5 xv 1 (encM [mE nm K])) (hk:KidOk w Bz N QK vC K kt) (hB:Bz≤w.heap.size) (hl:tC.len≤1000000000)
  (h: ∀v' w',Out Bz w' v' (tC.snoc ⟨nm,[],[]⟩ kt)→Chg w w' (fun j=>vC.ownBlock=some j)→K0 (a.put (some d) v') w'):wpOp Tryz.prog ops (NP Q) i K0 a w:=by
 obtain ⟨ms,g1,g2,g3⟩:=hO
 have hlen:=Out.len Bz g3
 obtain ⟨v',w',hr1,hO',hC',hr'⟩:=append_run (P:=Tryz.prog) (n:=n) (d:=d) (ty:=ty) (pos:=pos) (aft:=aft) (g:=g) (t:=24) (by rfl) (by decide) hs hx g1 hr (by omega) (by omega)
 exact wo_run hi hw rfl ha hr1 (h v' w' (Out.push g1 g2 g3 ⟨rfl,AtS.nil _,rfl,isSl_nil⟩ hk.1 hB (Chg.refl _ _) hO' hC' hr') hC')
theorem KidOk.own {w w':World} {Bz N Bz':Nat} {QK:AT→Prop} {vC K:Value} {tC kt:AT} (h:KidOk w Bz N QK vC K kt) (hO:Out Bz' w vC tC) (hc:Chg w w' (fun j=>vC.ownBlock=some j)):KidOk w' Bz N QK vC K kt:=by
 obtain ⟨ms,g1,_,_⟩:=hO
 exact ⟨h.1.chg hc (fun b cells _ hq he=>hq.2 he) (fun b cells hb he=>g1.ne he hb (by decide) rfl),h.2⟩
theorem Out.blk {w w':World} {Bz:Nat} {vC:Value} {tC:AT} (hO:Out Bz w vC tC) (hc:Chg w w' (fun j=>vC.ownBlock=some j)) {b:Nat} {cs:List Value} {ty:Nat} (h:Blk w b ty cs) (ht:ty≠43:=by decide):Blk w' b ty cs:=by
 obtain ⟨ms,g1,_,_⟩:=hO
 exact h.chg hc (fun he=>g1.ne he h (Ne.symm ht) rfl)
def GT (bt b7:Nat) (lv:Int) (Bz N:Nat) (QK:AT→Prop) (vC:Value) (tC:AT):Nat→Value→World→Prop
 |0,v,w=>v= .pointer (some ⟨b7,4,none⟩)
 |1,v,w=>v=vC
 |2,v,w=> ∃b,v= .slice (some ⟨b,0,none⟩) 3 3∧Blk w b 9 (strs lTd)
 |3,v,w=>v= .pointer (some ⟨bt,0,none⟩)
 |4,v,w=> ∃k:Nat,k<3∧v= .int .i64 k
 |5,v,w=> ∃b k,k<3∧v= .pointer (some ⟨b,k,none⟩)∧Blk w b 9 (strs lTd)
 |6,v,w=> ∃s∈lTd,v= .string (bs s)
 |7,v,w=>v= .pointer (some ⟨bt,0,none⟩)
 |8,v,w=>v= .int .i64 lv
 |9,v,w=>v= .int .i64 (lv+2)
 |10,v,w=> ∃kt,KidOk w Bz N QK vC v kt
 |11,v,w=> ∃s∈lTd,∃K kt,v= .agg #[.string (bs s),nS,.string (bs []),nS,K]∧KidOk w Bz N QK vC K kt
 |12,v,w=> ∃s∈lTd,∃K kt,RdS w 43 5 v 1 (encM [mE s K])∧KidOk w Bz N QK vC K kt
 |13,v,w=> ∃s∈lTd,∃kt,Out Bz w v (tC.snoc ⟨s,[],[]⟩ kt)∧QK kt∧kt.size≤N
 |14,v,w=>v= .pointer (some ⟨b7,4,none⟩)
 |_,_,_=>True
theorem GT.tp {bt b7:Nat} {lv:Int} {Bz N B:Nat} {QK:AT→Prop} {vC:Value} {tC:AT} {w w':World} (hT:Tp w B bt) (hc:Chg w w' (· =bt)): ∀j u,GT bt b7 lv Bz N QK vC tC j u w→GT bt b7 lv Bz N QK vC tC j u w'
 |0,u,h=>h
 |1,u,h=>h
 |2,u,⟨b,h1,h2⟩=>⟨b,h1,keepT hT hc _ _ _ (by decide) h2⟩
 |3,u,h=>h
 |4,u,h=>h
 |5,u,⟨b,k,h1,h2,h3⟩=>⟨b,k,h1,h2,keepT hT hc _ _ _ (by decide) h3⟩
 |6,u,h=>h
 |7,u,h=>h
 |8,u,h=>h
 |9,u,h=>h
 |10,u,⟨kt,h⟩=>⟨kt,h.tp hT hc⟩
 |11,u,⟨s,hs,K,kt,h1,h2⟩=>⟨s,hs,K,kt,h1,h2.tp hT hc⟩
 |12,u,⟨s,hs,K,kt,h1,h2⟩=>⟨s,hs,K,kt,RdS.tp h1 hT hc (by decide),h2.tp hT hc⟩
 |13,u,⟨s,hs,kt,h1,h2⟩=>⟨s,hs,kt,h1.tp hT hc,h2⟩
 |14,u,h=>h
 |_+15,u,h=>trivial
theorem GT.no {bt b7:Nat} {lv:Int} {Bz N B:Nat} {QK:AT→Prop} {vC:Value} {tC:AT} {w w':World} (hT:Tp w B bt) (hc:Chg w w' No) (j:Nat) (u:Value) (h:GT bt b7 lv Bz N QK vC tC j u w):GT bt b7 lv Bz N QK vC tC j u w':=GT.tp hT (hc.mono (fun _ _ h=>h.elim)) j u h
def killT:Nat→Nat
 |12=>13
 |_=>100
theorem GT.own {bt b7:Nat} {lv:Int} {Bz N:Nat} {QK:AT→Prop} {vC:Value} {tC:AT} {w w':World} (hO:Out Bz w vC tC) (hc:Chg w w' (fun j=>vC.ownBlock=some j)): ∀j u,j≠13→killT j≠13→GT bt b7 lv Bz N QK vC tC j u w→GT bt b7 lv Bz N QK vC tC j u w'
 |0,u,_,_,h=>h
 |1,u,_,_,h=>h
 |2,u,_,_,⟨b,h1,h2⟩=>⟨b,h1,hO.blk hc h2⟩
 |3,u,_,_,h=>h
 |4,u,_,_,h=>h
 |5,u,_,_,⟨b,k,h1,h2,h3⟩=>⟨b,k,h1,h2,hO.blk hc h3⟩
 |6,u,_,_,h=>h
 |7,u,_,_,h=>h
 |8,u,_,_,h=>h
 |9,u,_,_,h=>h
 |10,u,_,_,⟨kt,h⟩=>⟨kt,h.own hO hc⟩
 |11,u,_,_,⟨s,hs,K,kt,h1,h2⟩=>⟨s,hs,K,kt,h1,h2.own hO hc⟩
 |12,u,_,hk,h=>absurd rfl hk
 |13,u,h13,_,h=>absurd rfl h13
 |14,u,_,_,h=>h
 |_+15,u,_,_,h=>trivial
def nTable:List UInt8:= [116,97,98,108,101]
def nTbody:List UInt8:= [116,98,111,100,121]
def nTr:List UInt8:= [116,114]
theorem table_calls {lv d:Nat} (hl:lv≤100) (hI:ItemC (lv+2) d) {w:World} {B bt:Nat} {li:Int} (hT0:Tp w B bt) (hli:li=(lv:Int)) (hd100:blZ d≤1000000000):Calls Tryz.prog 40 [.pointer (some ⟨bt,0,none⟩),.int .i64 li].toArray w fun e w'=>
  ∃V la K k,e= .returned (.agg #[.string (bs nTable),V,.string (bs []),nS,K])∧AtS w' V la∧LN la∧(∀a∈la,a.1∈lKey∧a.2∈lVal)∧TreeOk w' (fun b=>w.heap.size≤b) K k∧k.okc [tBod] (4*d+13)∧k.size≤8+4*blZ d∧Tp w' B bt∧Chg w w' (· =bt):=by
 subst hli
 refine zCz 55 Tryz.func40 ?_
 refine zS (zR ?_)
 refine zAl (fun w1 b4 hN1=> ?_)
 have hb41:Blk w1 b4 43 [.string ⟨#[]⟩,nS,.string ⟨#[]⟩,nS,nS]:=hN1.blk
 refine zz ?_
 refine z_buildE #[.string (bs nTbody),nS,.string (bs []),nS,nS] (want_L rfl) (by decide) rfl (by kernel_rfl) ?_
 refine zAl (fun w2 b5 hN2=> ?_)
 have hb52:Blk w2 b5 43 [.string ⟨#[]⟩,nS,.string ⟨#[]⟩,nS,nS]:=hN2.blk
 refine z_store (want_L rfl) rfl rfl rfl (by assumption) (by first|exact Nat.le_refl _|simp [Value.cells]) (by simp [Value.cells,Value.oneCell']) (fun w3 hU3=> ?_)
 have hb53:Blk w3 b5 43 [.string (bs nTbody),nS,.string (bs []),nS,nS]:=hU3.blk
 have hX13:Chg w1 w3 No:=hN2.chg.upd hU3 (hN2.ge (Chg.refl _ No))
 have hX03:Chg w w3 No:=hN1.chg.no hX13
 have hT3:=hT0.no hX03
 have hb4lt:b4<b5:=by have:=hN1.blk.lt;have:=hN2.at_;omega
 have hb4ge:w.heap.size≤b4:=Nat.le_of_eq hN1.at_.symm
 have hb5lt:b5<w3.heap.size:=hb53.lt
 have hbtlt:=hT0.lt
 have hbtge:=hT0.ge
 refine zz ?_
 refine zc_loopW (ι:=Nat×Value×AT) (fun q u=> [(0,.pointer (some ⟨bt,0,none⟩)),(1,.int .i64 lv),(4,.pointer (some ⟨b4,0,none⟩)),(5,.pointer (some ⟨b5,0,none⟩)),(6,.int .i64 q.1)])
  (fun q u=>q.1≤2∧Out w3.heap.size u q.2.1 q.2.2∧q.2.2.okc [tTr] (4*d+12)∧q.2.2.len=q.1∧q.2.2.size≤q.1*(3+2*blZ d)∧Blk u b5 43 [.string (bs nTbody),nS,.string (bs []),nS,q.2.1]∧Blk u b4 43 [.string ⟨#[]⟩,nS,.string ⟨#[]⟩,nS,nS]∧Tp u B bt∧Chg w u (· =bt)∧w3.heap.size≤u.heap.size) (fun q u=>2 - q.1) (0,nS,.nil)
  ⟨by decide,Out.nil,AT.okc_nil _ _,rfl,by simp [AT.size],hb53,hb41.no hX13,hT3,hX03.mono (fun _ _ h=>h.elim),Nat.le_refl _⟩ ?_ ?_
 ·exact ⟨rfl,rfl,rfl,rfl,rfl,trivial⟩
 rintro ⟨r,vB,tB⟩ u ⟨hr,hOB,hokB,hlenB,hszB,hb5u,hb4u,hTu,hCu,hw3u⟩
 dsimp only at hr hOB hokB hlenB hszB hb5u hb4u hTu hCu hw3u ⊢
 have hsu:=hCu.size
 obtain ⟨AB,cB,hvB,hcB⟩:=hOB.form
 subst hvB
 refine zz ?_
 refine zCl rfl (next_calls hTu 2 (by decide) (by decide) rfl) ?_
 rintro _ u1 ⟨⟨nr,hnr,rfl⟩,hT1,hX1⟩
 refine ⟨_,rfl,?_⟩
 have hOB1:=hOB.tp hTu hX1
 have hb51:=keepT hTu hX1 _ _ _ (by decide) hb5u
 have hb41':=keepT hTu hX1 _ _ _ (by decide) hb4u
 have hC1:Chg w u1 (· =bt):=hCu.trans hX1 (fun _ _ h=>h)
 have hs1:=hX1.size
 by_cases hle:r≤nr
 ·have hr2:r≤1:=by omega
  refine zz ?_
  refine z_buildE #[.string (bs nTr),nS,.string (bs []),nS,nS] (want_L rfl) (by decide) rfl (by kernel_rfl) ?_
  refine zAl (fun u2 b7 hN7=> ?_)
  have hb72:Blk u2 b7 43 [.string ⟨#[]⟩,nS,.string ⟨#[]⟩,nS,nS]:=hN7.blk
  refine z_store (want_L rfl) rfl rfl rfl (by assumption) (by first|exact Nat.le_refl _|simp [Value.cells]) (by simp [Value.cells,Value.oneCell']) (fun u3 hU7=> ?_)
  have hb73:Blk u3 b7 43 [.string (bs nTr),nS,.string (bs []),nS,nS]:=hU7.blk
  have hX13':Chg u1 u3 No:=hN7.chg.upd hU7 (hN7.ge (Chg.refl _ No))
  have hT3':=hT1.no hX13'
  have hb7ge:u1.heap.size≤b7:=hN7.ge (Chg.refl _ No)
  have hb7lt:b7<u3.heap.size:=hb73.lt
  refine zz ?_
  refine zc_loopW (ι:=Nat×Value×AT) (fun q z=> [(0,.pointer (some ⟨bt,0,none⟩)),(1,.int .i64 lv),(4,.pointer (some ⟨b4,0,none⟩)),(5,.pointer (some ⟨b5,0,none⟩)),(6,.int .i64 r),(7,.pointer (some ⟨b7,0,none⟩)),(8,.int .i64 q.1)])
   (fun q z=>q.1≤2∧Out u3.heap.size z q.2.1 q.2.2∧q.2.2.okc tCell (4*d+11)∧q.2.2.len=q.1∧q.2.2.size≤q.1*(1+blZ d)∧Blk z b7 43 [.string (bs nTr),nS,.string (bs []),nS,q.2.1]∧Tp z B bt∧Chg u1 z (· =bt)∧u3.heap.size≤z.heap.size) (fun q z=>3 - q.1) (0,nS,.nil)
   ⟨by decide,Out.nil,AT.okc_nil _ _,rfl,by simp [AT.size],hb73,hT3',hX13'.mono (fun _ _ h=>h.elim),Nat.le_refl _⟩ ?_ ?_
  ·exact ⟨rfl,rfl,rfl,rfl,rfl,rfl,rfl,trivial⟩
  rintro ⟨c,vC,tC⟩ z ⟨hcc,hOC,hokC,hlenC,hszC,hb7z,hTz,hCz,hsz3⟩
  dsimp only at hcc hOC hokC hlenC hszC hb7z hTz hCz hsz3 ⊢
  obtain ⟨AC,cC,hvC,hcC⟩:=hOC.form
  subst hvC
  refine zz ?_
  refine zCl rfl (next_calls hTz 2 (by decide) (by decide) rfl) ?_
  rintro _ z1 ⟨⟨nc,hnc,rfl⟩,hTz1,hXz1⟩
  refine ⟨_,rfl,?_⟩
  have hOC1:=hOC.tp hTz hXz1
  have hb7z1:=keepT hTz hXz1 _ _ _ (by decide) hb7z
  have hCz1:Chg u1 z1 (· =bt):=hCz.trans hXz1 (fun _ _ h=>h)
  have hsz1:=hXz1.size
  by_cases hle2:c≤nc
  ·refine zz ?_
   refine zc_drawK 15 (GT bt b7 lv u3.heap.size (blZ d) (AT.oki (4*d+10)) (.slice AC tC.len cC) tC) killT (fun b z'=>Tp z' B bt∧Blk z' b7 43 [.string (bs nTr),nS,.string (bs []),nS,.slice AC tC.len cC]∧Chg u1 z' (· =bt)∧u3.heap.size≤z'.heap.size∧(b.getD 13 false=false→Out u3.heap.size z' (.slice AC tC.len cC) tC))
    [(0,.pointer (some ⟨bt,0,none⟩)),(1,.int .i64 lv),(4,.pointer (some ⟨b4,0,none⟩)),(5,.pointer (some ⟨b5,0,none⟩)),(6,.int .i64 r),(7,.pointer (some ⟨b7,0,none⟩)),(8,.int .i64 c)] (by rfl) (by kernel_rfl) (by kernel_rfl) ⟨rfl,rfl,rfl,rfl,rfl,rfl,rfl,trivial⟩ (fun z' hz _=>⟨hTz1.no hz,hb7z1.no hz,hCz1.no hz,by have:=hz.size;omega,fun _=>hOC1.no hz⟩) ?_ (by decide) (fun _=>⟨by kernel_rfl,by kernel_rfl⟩) ?_
   ·intro i hi b a y hbsz hbi hcl hL
    obtain ⟨hok,⟨hT,hB7,hC,hsz,hOut⟩,hd⟩:=hL
    have hstay: ∀{j:Nat},j≠13→(b.setIfInBounds j true).getD 13 false=false→b.getD 13 false=false:=fun hj h=>by rwa [gd_ne hj] at h
    have hnew: ∀{y':World},Chg y y' No→ ∀{j:Nat},j≠13→(Tp y' B bt∧Blk y' b7 43 [.string (bs nTr),nS,.string (bs []),nS,.slice AC tC.len cC]∧Chg u1 y' (· =bt)∧u3.heap.size≤y'.heap.size∧((b.setIfInBounds j true).getD 13 false=false→Out u3.heap.size y' (.slice AC tC.len cC) tC)):=fun hy j hj=>⟨hT.no hy,hB7.no hy,hC.no hy,by have:=hy.size;omega,fun h=>(hOut (hstay hj h)).no hy⟩
    have hnx: ∀{y':World},Tp y' B bt→Chg y y' (· =bt)→ ∀{j:Nat},j≠13→(Tp y' B bt∧Blk y' b7 43 [.string (bs nTr),nS,.string (bs []),nS,.slice AC tC.len cC]∧Chg u1 y' (· =bt)∧u3.heap.size≤y'.heap.size∧((b.setIfInBounds j true).getD 13 false=false→Out u3.heap.size y' (.slice AC tC.len cC) tC)):=fun hT' hy j hj=>⟨hT',keepT hT hy _ _ _ (by decide) hB7,hC.trans hy (fun _ _ h=>h),by have:=hy.size;omega,fun h=>(hOut (hstay hj h)).tp hT hy⟩
    have hsame:=fun {j:Nat} (hj:j≠13)=>hnew (Chg.refl y No) hj
    have g: ∀j,waits _ i j=true→(killT j=i∨15≤killT j)→ ∀dj,dstOf _ j=some dj→ ∃v,a.tmps[dj]? =some v∧GT bt b7 lv u3.heap.size (blZ d) (AT.oki (4*d+10)) (.slice AC tC.len cC) tC j v y:=fun j hw hk dj hdj=>by
     obtain ⟨v,h1,h2⟩:=hd j hw dj hdj
     exact ⟨v,h1,h2 (fun hh=>hh hk)⟩
    match i,hi with
    |0,_=>exact ⟨24,rfl,wo_run rfl (want_L rfl) rfl hok (r_fa rfl) ⟨_,rfl,rfl,hsame (by decide),fun _ _ _ _ h=>h⟩⟩
    |1,_=>
     obtain ⟨v,h1,rfl⟩:=g 0 (by kernel_rfl) (by decide) _ rfl
     exact ⟨25,rfl,wo_run rfl (want_L rfl) rfl (hok.cons h1) (r_loadB rfl hB7 (by rfl)) ⟨_,rfl,rfl,hsame (by decide),fun _ _ _ _ h=>h⟩⟩
    |2,_=>
     have hN:=New.mk' y 9 (strs lTd)
     exact ⟨26,rfl,wo_run rfl (want_L rfl) rfl hok (run_bsE (strs lTd) rfl (by decide) (by decide) (by kernel_rfl)) ⟨_,rfl,⟨_,rfl,hN.blk⟩,hnew hN.chg (by decide),fun j u _ _ h=>GT.no hT hN.chg j u h⟩⟩
    |3,_=>exact ⟨27,rfl,wo_pure rfl hok rfl ⟨_,rfl,rfl,hsame (by decide),fun _ _ _ _ h=>h⟩⟩
    |4,_=>
     obtain ⟨v,h1,rfl⟩:=g 3 (by kernel_rfl) (by decide) _ rfl
     refine ⟨28,rfl,wo_call rfl (want_L rfl) rfl (hok.cons h1) rfl (next_calls hT 3 (by decide) (by decide) rfl) ?_⟩
     rintro _ y' ⟨⟨k,hk,rfl⟩,hT',hC'⟩
     exact ⟨_,rfl,_,rfl,⟨k,hk,rfl⟩,hnx hT' hC' (by decide),fun j u _ _ h=>GT.tp hT hC' j u h⟩
    |5,_=>
     obtain ⟨v0,h0,bq,rfl,hb⟩:=g 2 (by kernel_rfl) (by decide) _ rfl
     obtain ⟨v2,h2,k,hk,rfl⟩:=g 4 (by kernel_rfl) (by decide) _ rfl
     exact ⟨29,rfl,wo_run rfl (want_L rfl) rfl ((hok.cons h0).cons h2) (r_ia rfl rfl (by omega) (by omega)) ⟨_,rfl,⟨bq,k,hk,by simp,hb⟩,hsame (by decide),fun _ _ _ _ h=>h⟩⟩
    |6,_=>
     obtain ⟨v3,h3,bq,k,hk,rfl,hb⟩:=g 5 (by kernel_rfl) (by decide) _ rfl
     exact ⟨30,rfl,wo_run rfl (want_L rfl) rfl (hok.cons h3) (r_load1 rfl ((hb.cell k).trans (strs_get lTd k hk))) ⟨_,rfl,⟨_,getD_mem lTd k hk,rfl⟩,hsame (by decide),fun _ _ _ _ h=>h⟩⟩
    |7,_=>exact ⟨31,rfl,wo_pure rfl hok rfl ⟨_,rfl,rfl,hsame (by decide),fun _ _ _ _ h=>h⟩⟩
    |8,_=>exact ⟨32,rfl,wo_pure rfl hok rfl ⟨_,rfl,rfl,hsame (by decide),fun _ _ _ _ h=>h⟩⟩
    |9,_=>
     obtain ⟨v8,h8,rfl⟩:=g 8 (by kernel_rfl) (by decide) _ rfl
     exact ⟨33,rfl,wo_run rfl (want_L rfl) rfl (hok.cons h8) (r_add rfl rfl (by omega) (by omega)) ⟨_,rfl,rfl,hsame (by decide),fun _ _ _ _ h=>h⟩⟩
    |10,_=>
     obtain ⟨v7,h7,rfl⟩:=g 7 (by kernel_rfl) (by decide) _ rfl
     obtain ⟨v9,h9,rfl⟩:=g 9 (by kernel_rfl) (by decide) _ rfl
     have hb13:b.getD 13 false=false:=by
      rcases h13:b.getD 13 false with _|_
      ·rfl
      ·have e1:=hcl 13 12 h13 (by kernel_rfl)
       have e2:=hcl 12 11 e1 (by kernel_rfl)
       have e3:=hcl 11 10 e2 (by kernel_rfl)
       rw [hbi] at e3;cases e3
     have hO:=hOut hb13
     refine ⟨34,rfl,wo_call rfl (want_L rfl) rfl ((hok.cons h7).cons h9) rfl (hI (li:=lv+2) hT (by omega)) ?_⟩
     rintro _ y' ⟨vK,kt,rfl,hK,hkok,hks,hT',hC'⟩
     exact ⟨_,rfl,_,rfl,⟨kt,TreeOk.under hO (by omega) (Nat.le_refl _) hK.tree,hkok,hks⟩,hnx hT' hC' (by decide),fun j u _ _ h=>GT.tp hT hC' j u h⟩
    |11,_=>
     obtain ⟨v6,h6,s,hs,rfl⟩:=g 6 (by kernel_rfl) (by decide) _ rfl
     obtain ⟨v10,h10,kt,hk⟩:=g 10 (by kernel_rfl) (by decide) _ rfl
     obtain ⟨AK,cK,rfl,_⟩:=hk.form
     exact ⟨35,rfl,wo_run rfl (want_L rfl) rfl ((hok.cons h6).cons h10) (r_build' (cells:= #[.string (bs s),nS,.string (bs []),nS,.slice AK kt.len cK]) rfl (by kernel_rfl)) ⟨_,rfl,⟨s,hs,_,kt,rfl,hk⟩,hsame (by decide),fun _ _ _ _ h=>h⟩⟩
    |12,_=>
     obtain ⟨v11,h11,s,hs,K,kt,rfl,hk⟩:=g 11 (by kernel_rfl) (by decide) _ rfl
     have hN:=New.mk' y 43 (encM [mE s K])
     have hrd:=RdS.art (x:=⟨s,[],[]⟩) ⟨rfl,AtS.nil _,rfl,isSl_nil⟩ hk.1 hN
     obtain ⟨AK,cK,rfl,_⟩:=hk.form
     exact ⟨36,rfl,wo_run rfl (want_L rfl) rfl (hok.cons h11) (run_bsE (encM [mE s (.slice AK kt.len cK)]) rfl (by decide) (by decide) (by kernel_rfl)) ⟨_,rfl,⟨s,hs,_,kt,hrd,hk.tp hT (hN.chg.mono (fun _ _ h=>h.elim))⟩,hnew hN.chg (by decide),fun j u _ _ h=>GT.no hT hN.chg j u h⟩⟩
    |13,_=>
     obtain ⟨v1,h1,rfl⟩:=g 1 (by kernel_rfl) (by decide) _ rfl
     obtain ⟨v12,h12,s,hs,K,kt,hr12,hk⟩:=g 12 (by kernel_rfl) (by decide) _ rfl
     have hO:=hOut hbi
     have hown: ∀k,(Value.slice AC tC.len cC).ownBlock=some k→u3.heap.size≤k:=fun k hk=>by obtain ⟨ms,_,g2,_⟩:=hO;exact g2 k hk
     refine ⟨37,rfl,wo_push rfl (want_L rfl) ((hok.cons h1).cons h12) rfl rfl hO hr12 hk hsz (by omega) (fun v' y' hO' hC'=> ?_)⟩
     refine ⟨v',rfl,⟨s,hs,kt,hO',hk.2⟩,⟨hT.own hO (by have:=hT0.lt;have:=hT0.ge;omega) hC',hB7.chg hC' (fun he=>by have:=hown _ he;omega),Chg.own hC hO (by omega) hC',by have:=hC'.size;omega,fun h=> ?_⟩,fun j u hj hk' h=>GT.own hO hC' j u hj hk' h⟩
     have h':13<b.size:=by rw [hbsz];decide
     simp [h'] at h
    |14,_=>exact ⟨38,rfl,wo_run rfl (want_L rfl) rfl hok (r_fa rfl) ⟨_,rfl,rfl,hsame (by decide),fun _ _ _ _ h=>h⟩⟩
   ·intro b a y hL
    obtain ⟨hok,⟨hT,hB7,hC,hsz,_⟩,hd⟩:=hL
    obtain ⟨v13,h13,g13⟩:=hd 13 (by decide) _ rfl
    obtain ⟨v14,h14,g14⟩:=hd 14 (by decide) _ rfl
    obtain ⟨s,hs,kt,hO',hkok,hks⟩:=g13 (by decide)
    obtain rfl:=g14 (by decide)
    obtain ⟨A',c',rfl,hcc'⟩:=hO'.form
    rw [if_pos (by decide)]
    refine wo_store rfl (want_L rfl) ((hok.cons h13).cons h14) rfl rfl (by rfl) hB7 (by simp) (by simp [Value.cells,Value.oneCell']) (fun y2 hU2=> ?_)
    have hb7y:Blk y2 b7 43 [.string (bs nTr),nS,.string (bs []),nS,.slice A' (tC.snoc ⟨s,[],[]⟩ kt).len c']:=hU2.blk
    refine np_zk (e:= [(0,.pointer (some ⟨bt,0,none⟩)),(1,.int .i64 lv),(4,.pointer (some ⟨b4,0,none⟩)),(5,.pointer (some ⟨b5,0,none⟩)),(6,.int .i64 r),(7,.pointer (some ⟨b7,0,none⟩)),(8,.int .i64 c)]) ?_ hok
    have hO2:Out u3.heap.size y2 (.slice A' (tC.snoc ⟨s,[],[]⟩ kt).len c') (tC.snoc ⟨s,[],[]⟩ kt):=hO'.chg hU2.chg (fun b' cells _ hb' he=>by omega) (fun b' cells hb' he=>hb'.ne hB7 (by decide) he)
    have hT2:Tp y2 B bt:=hT.oth hU2.chg (fun he=>by obtain ⟨cs,hb⟩:=hT.blk;exact hb.ne hB7 (by decide) he) (fun k _ hk=>by omega)
    refine zz ?_
    refine zk_loopW (c+1,.slice A' (tC.snoc ⟨s,[],[]⟩ kt).len c',tC.snoc ⟨s,[],[]⟩ kt) ⟨by omega,hO2,AT.okc_snoc hokC (hdN (lTd_nm s hs)) ((show∀a∈lTd,a∈tCell by decide) s hs) ((show∀a∈lTd,a≠ [] by decide) s hs) (kids_cell ((show∀a∈lTd,a∈([[108,105],[116,100],[116,104]]:List (List UInt8)) by decide) s hs) hkok.2.2.1) hkok.1 hkok.2.1 (by have:=hkok.2.2.2;omega),by rw [AT.snoc_len,hlenC],?_,hb7y,hT2,hC.trans hU2.chg (fun k hk he=>by omega),by have:=hU2.chg.size;omega⟩ (by show 3 - (c+1)<3 - c;omega) ⟨rfl,rfl,rfl,rfl,rfl,rfl,get_int rfl (by simp),trivial⟩
    dsimp only
    rw [AT.snoc_size,Nat.add_mul,Nat.one_mul];omega
  ·have hOC1t:=hOC1.tree
   have hKr:KidOk z1 w3.heap.size (2+2*blZ d) (AT.okc tCell (4*d+11)) (.slice AB tB.len cB) (.slice AC tC.len cC) tC:=⟨TreeOk.under hOB1 (by have:=hX13'.size;omega) (by have:=hX13'.size;omega) hOC1t,hokC,by
    have h1:=Nat.mul_le_mul_right (1+blZ d) hcc
    omega⟩
   have hOBz:=hOB1.tp hT1 hCz1
   have hb5z:=keepT hT1 hCz1 _ _ _ (by decide) hb51
   have hb4z:=keepT hT1 hCz1 _ _ _ (by decide) hb41'
   have hCwz:Chg w z1 (· =bt):=hC1.trans hCz1 (fun _ _ h=>h)
   have hw3z:w3.heap.size≤z1.heap.size:=by have:=hX13'.size;omega
   refine zz ?_
   refine z_bsE (encM [mE nTr (.slice AC tC.len cC)]) (want_L rfl) (by decide) rfl (by decide) (by decide) (by kernel_rfl) (fun p1 pb hP=> ?_)
   refine z_push (h:=⟨nTr,[],[]⟩) (k:=tC) (m:=mE nTr (.slice AC tC.len cC)) (want_L rfl) (by decide) rfl rfl hOBz ⟨rfl,AtS.nil _,rfl,isSl_nil⟩ hKr.1 (by omega) hP (by omega) (fun p2 q2 hP2 hPC=> ?_)
   obtain ⟨A',c',rfl,_⟩:=hP2.form
   have hown: ∀k,(Value.slice AB tB.len cB).ownBlock=some k→w3.heap.size≤k:=fun k hk=>by obtain ⟨ms,_,g2,_⟩:=hOBz;exact g2 k hk
   have hb5q:=hb5z.chg hPC (fun he=>by have:=hown _ he;omega)
   have hb4q:=hb4z.chg hPC (fun he=>by have:=hown _ he;omega)
   have hTq:=hTz1.own hOBz (by omega) hPC
   have hCq:=Chg.own hCwz hOBz (by have:=hN1.chg.size;have:=hX13.size;omega) hPC
   refine zfa rfl ?_
   refine z_store (want_L rfl) rfl rfl rfl (by assumption) (by first|exact Nat.le_refl _|simp [Value.cells]) (by simp [Value.cells,Value.oneCell']) (fun q3 hU3=> ?_)
   have hb5s:Blk q3 b5 43 [.string (bs nTbody),nS,.string (bs []),nS,.slice A' (tB.snoc ⟨nTr,[],[]⟩ tC).len c']:=hU3.blk
   have hO3:Out w3.heap.size q3 (.slice A' (tB.snoc ⟨nTr,[],[]⟩ tC).len c') (tB.snoc ⟨nTr,[],[]⟩ tC):=hP2.chg hU3.chg (fun b' cells _ hb' he=>by omega) (fun b' cells hb' he=>hb'.ne hb5q (by decide) he)
   refine zz ?_
   refine zk_loopW (r+1,.slice A' (tB.snoc ⟨nTr,[],[]⟩ tC).len c',tB.snoc ⟨nTr,[],[]⟩ tC) ⟨by omega,hO3,AT.okc_snoc hokB (hdN (by decide)) (by decide:nTr∈ [tTr]) (by decide:nTr≠ []) (kids_tr (by decide) hokC.2.2.1) hokC.1 hokC.2.1 (by have:=hokC.2.2.2;omega),by rw [AT.snoc_len,hlenB],?_,hb5s,hb4q.chg hU3.chg (fun he=>by omega),hTq.oth hU3.chg (fun he=>by omega) (fun k _ hk=>by omega),hCq.trans hU3.chg (fun k hk he=>by omega),by have:=hPC.size;have:=hU3.chg.size;omega⟩ (by show 2 - (r+1)<2 - r;omega) ⟨rfl,rfl,rfl,rfl,get_int rfl (by simp),trivial⟩
   dsimp only
   have:=hKr.2.2
   rw [AT.snoc_size,Nat.add_mul,Nat.one_mul];omega
 ·have hKB:KidOk u1 w3.heap.size (6+4*blZ d) (AT.okc [tTr] (4*d+12)) (.slice none 0 0) (.slice AB tB.len cB) tB:=⟨hOB1.tree.mono (fun b _ hb=>⟨hb,fun h=>by cases h⟩),hokB,by
   have h1:=Nat.mul_le_mul_right (3+2*blZ d) hr
   omega⟩
  refine zz ?_
  refine z_bsE (encM [mE nTbody (.slice AB tB.len cB)]) (want_L rfl) (by decide) rfl (by decide) (by decide) (by kernel_rfl) (fun p1 pb hP=> ?_)
  have hrd:=RdS.art (x:=⟨nTbody,[],[]⟩) ⟨rfl,AtS.nil _,rfl,isSl_nil⟩ hKB.1 hP
  have hK1:TreeOk p1 (fun b=>w3.heap.size≤b) (.slice (some ⟨pb,0,none⟩) 1 1) (.cons ⟨nTbody,[],[]⟩ tB .nil):=
   ⟨[mE nTbody (.slice AB tB.len cB)],hrd,fun _ b hb=>by simp only [Value.ownBlock,Option.some.injEq] at hb;have:=hP.at_;omega,_,[],rfl,⟨rfl,AtS.nil _,rfl,isSl_nil⟩,(hKB.1.no hP.chg).mono (fun b _ h=>h.1),rfl⟩
  have hokK:(AT.cons ⟨nTbody,[],[]⟩ tB .nil).okc [tBod] (4*d+13):=AT.okc_snoc (t:= .nil) (AT.okc_nil _ _) (hdN (by decide)) (by decide:nTbody∈ [tBod]) (by decide:nTbody≠ []) (kids_bod (by decide) hokB.2.2.1) hokB.1 hokB.2.1 (by have:=hokB.2.2.2;omega)
  have hszK:(AT.cons ⟨nTbody,[],[]⟩ tB .nil).size≤8+4*blZ d:=by have:=hKB.2.2;simp only [AT.size];omega
  have hTp1:=hT1.no hP.chg
  have hb4p:=hb41'.no hP.chg
  have hCp1:Chg w p1 (· =bt):=hC1.no hP.chg
  refine z_buildE #[.string (bs nTable),nS,.string (bs []),nS,.slice (some ⟨pb,0,none⟩) 1 1] (want_L rfl) (by decide) rfl (by kernel_rfl) ?_
  refine zAl (fun p2 b9 hN9=> ?_)
  have hb92:Blk p2 b9 43 [.string ⟨#[]⟩,nS,.string ⟨#[]⟩,nS,nS]:=hN9.blk
  refine z_store (want_L rfl) rfl rfl rfl (by assumption) (by first|exact Nat.le_refl _|simp [Value.cells]) (by simp [Value.cells,Value.oneCell']) (fun p3 hU9=> ?_)
  have hb93:Blk p3 b9 43 [.string (bs nTable),nS,.string (bs []),nS,.slice (some ⟨pb,0,none⟩) 1 1]:=hU9.blk
  have hX9:Chg p1 p3 No:=hN9.chg.upd hU9 (hN9.ge (Chg.refl _ No))
  have hb9ge:p1.heap.size≤b9:=hN9.ge (Chg.refl _ No)
  have hsp1:=hCp1.size
  have hK3:=hK1.no hX9
  refine zz ?_
  refine zCl rfl (titled_calls (nm:=nTable) (tx:= []) isSl_nil isSl_nil hK3.at'.weak (by omega)) ?_
  rintro _ p4 ⟨⟨q,rfl⟩,hX4⟩
  refine ⟨_,rfl,?_⟩
  have hK4:=hK3.no hX4
  have hb94:=hb93.no hX4
  have hb44:=(hb4p.no hX9).no hX4
  have hT4:=(hTp1.no hX9).no hX4
  have hC4:Chg w p4 (· =bt):=(hCp1.no hX9).no hX4
  have h49:b4<b9:=by have:=hb4p.lt;omega
  cases q
  ·refine zz ?_
   refine z_buildE #[.string (bs [114,111,108,101]),.string (bs sPres)] (want_L rfl) (by decide) rfl (by kernel_rfl) ?_
   refine z_bsE (encA [([114,111,108,101],sPres)]) (want_L rfl) (by decide) rfl (by decide) (by decide) (by kernel_rfl) (fun p5 ba hA=> ?_)
   have hA5:AtS p5 (.slice (some ⟨ba,0,none⟩) 1 1) [([114,111,108,101],sPres)]:=RdS.new hA rfl (encA_one _)
   have hb95:=hb94.no hA.chg
   have hK5:=hK4.no hA.chg
   have hb45:=hb44.no hA.chg
   have hT5:=hT4.no hA.chg
   have hC5:Chg w p5 (· =bt):=hC4.no hA.chg
   refine zfa rfl ?_
   refine z_store (want_L rfl) rfl rfl rfl (by assumption) (by first|exact Nat.le_refl _|simp [Value.cells]) (by simp [Value.cells,Value.oneCell']) (fun p6 hU6=> ?_)
   have hb96:Blk p6 b9 43 [.string (bs nTable),.slice (some ⟨ba,0,none⟩) 1 1,.string (bs []),nS,.slice (some ⟨pb,0,none⟩) 1 1]:=hU6.blk
   have hpb:pb<p1.heap.size:=hP.blk.lt
   have hX56:Chg p1 p6 No:=((hX9.no hX4).no hA.chg).upd hU6 hb9ge
   have hK6:=hK1.no hX56
   have hA6:AtS p6 (.slice (some ⟨ba,0,none⟩) 1 1) [([114,111,108,101],sPres)]:=RdS.chg hA5 hU6.chg (fun b cells hb he=>hb.ne hb95 (by decide) he)
   have hb46:=hb4p.no hX56
   refine zz ?_
   refine z_store (want_L rfl) rfl rfl rfl (by assumption) (by first|exact Nat.le_refl _|simp [Value.cells]) (by simp [Value.cells,Value.oneCell']) (fun p7 hU7=> ?_)
   have hb47:Blk p7 b4 43 [.string (bs nTable),.slice (some ⟨ba,0,none⟩) 1 1,.string (bs []),nS,.slice (some ⟨pb,0,none⟩) 1 1]:=hU7.blk
   refine zN (zK (zE ?_))
   have hb4lt3:b4<w3.heap.size:=by omega
   refine zk_retC (.inr rfl) rfl rfl hb47 rfl ⟨_,[([114,111,108,101],sPres)],_,_,rfl,RdS.chg hA6 hU7.chg (fun b cells hb he=>hb.ne hb46 (by decide) he),by decide,by decide,(hK6.chg hU7.chg (fun b cells _ hb he=>by omega) (fun b cells hb he=>hb.ne hb46 (by decide) he)).mono (fun b _ hb=>by have:=hX03.size;omega),hokK,hszK,?_,?_⟩
   ·exact (hTp1.no hX56).oth hU7.chg (fun he=>by omega) (fun k _ hk=>by omega)
   ·exact (hCp1.no hX56).trans hU7.chg (fun k hk he=>by omega)
  ·refine zz ?_
   refine z_store (want_L rfl) rfl rfl rfl (by assumption) (by first|exact Nat.le_refl _|simp [Value.cells]) (by simp [Value.cells,Value.oneCell']) (fun p7 hU7=> ?_)
   have hb47:Blk p7 b4 43 [.string (bs nTable),nS,.string (bs []),nS,.slice (some ⟨pb,0,none⟩) 1 1]:=hU7.blk
   refine zN (zK (zE ?_))
   refine zk_retC (.inr rfl) rfl rfl hb47 rfl ⟨_,[],_,_,rfl,AtS.nil _,by decide,by simp,(hK4.chg hU7.chg (fun b cells _ hb he=>by omega) (fun b cells hb he=>hb.ne hb44 (by decide) he)).mono (fun b _ hb=>by have:=hX03.size;omega),hokK,hszK,?_,?_⟩
   ·exact hT4.oth hU7.chg (fun he=>by omega) (fun k _ hk=>by omega)
   ·exact hC4.trans hU7.chg (fun k hk he=>by omega)
def lP:List (List UInt8):= [[112],[112],[112,114,101],[112]]
def lH:List (List UInt8):= [[104,50],[104,51],[104,52],[104,53],[104,54]]
theorem lP_nm: ∀x∈lP,x∈lNm:=by decide
theorem lH_nm: ∀x∈lH,x∈lNm:=by decide
def GP (bt kk:Nat) (Bz N:Nat) (QK:AT→Prop) (vC:Value) (tC:AT):Nat→Value→World→Prop
 |0,v,w=>v=vC
 |1,v,w=> ∃b,v= .slice (some ⟨b,0,none⟩) 4 4∧Blk w b 9 (strs lP)
 |2,v,w=>v= .int .i64 kk
 |3,v,w=> ∃b,v= .pointer (some ⟨b,kk,none⟩)∧Blk w b 9 (strs lP)
 |4,v,w=> ∃s∈lP,v= .string (bs s)
 |5,v,w=>v= .pointer (some ⟨bt,0,none⟩)
 |6,v,w=> ∃kt,KidOk w Bz N QK vC v kt
 |7,v,w=> ∃s∈lP,∃K kt,v= .agg #[.string (bs s),nS,.string (bs []),nS,K]∧KidOk w Bz N QK vC K kt
 |8,v,w=> ∃s∈lP,∃K kt,RdS w 43 5 v 1 (encM [mE s K])∧KidOk w Bz N QK vC K kt
 |9,v,w=> ∃s∈lP,∃kt,Out Bz w v (tC.snoc ⟨s,[],[]⟩ kt)∧QK kt∧kt.size≤N
 |_,_,_=>True
theorem GP.tp {bt kk:Nat} {Bz N B:Nat} {QK:AT→Prop} {vC:Value} {tC:AT} {w w':World} (hT:Tp w B bt) (hc:Chg w w' (· =bt)): ∀j u,GP bt kk Bz N QK vC tC j u w→GP bt kk Bz N QK vC tC j u w'
 |0,u,h=>h
 |1,u,⟨b,h1,h2⟩=>⟨b,h1,keepT hT hc _ _ _ (by decide) h2⟩
 |2,u,h=>h
 |3,u,⟨b,h1,h2⟩=>⟨b,h1,keepT hT hc _ _ _ (by decide) h2⟩
 |4,u,h=>h
 |5,u,h=>h
 |6,u,⟨kt,h⟩=>⟨kt,h.tp hT hc⟩
 |7,u,⟨s,hs,K,kt,h1,h2⟩=>⟨s,hs,K,kt,h1,h2.tp hT hc⟩
 |8,u,⟨s,hs,K,kt,h1,h2⟩=>⟨s,hs,K,kt,RdS.tp h1 hT hc (by decide),h2.tp hT hc⟩
 |9,u,⟨s,hs,kt,h1,h2⟩=>⟨s,hs,kt,h1.tp hT hc,h2⟩
 |_+10,u,h=>trivial
theorem GP.no {bt kk:Nat} {Bz N B:Nat} {QK:AT→Prop} {vC:Value} {tC:AT} {w w':World} (hT:Tp w B bt) (hc:Chg w w' No) (j:Nat) (u:Value) (h:GP bt kk Bz N QK vC tC j u w):GP bt kk Bz N QK vC tC j u w':=GP.tp hT (hc.mono (fun _ _ h=>h.elim)) j u h
def killGP:Nat→Nat
 |8=>9
 |_=>100
theorem GP.own {bt kk:Nat} {Bz N:Nat} {QK:AT→Prop} {vC:Value} {tC:AT} {w w':World} (hO:Out Bz w vC tC) (hc:Chg w w' (fun j=>vC.ownBlock=some j)): ∀j u,j≠9→killGP j≠9→GP bt kk Bz N QK vC tC j u w→GP bt kk Bz N QK vC tC j u w'
 |0,u,_,_,h=>h
 |1,u,_,_,⟨b,h1,h2⟩=>⟨b,h1,hO.blk hc h2⟩
 |2,u,_,_,h=>h
 |3,u,_,_,⟨b,h1,h2⟩=>⟨b,h1,hO.blk hc h2⟩
 |4,u,_,_,h=>h
 |5,u,_,_,h=>h
 |6,u,_,_,⟨kt,h⟩=>⟨kt,h.own hO hc⟩
 |7,u,_,_,⟨s,hs,K,kt,h1,h2⟩=>⟨s,hs,K,kt,h1,h2.own hO hc⟩
 |8,u,_,hk,h=>absurd rfl hk
 |9,u,h13,_,h=>absurd rfl h13
 |_+10,u,_,_,h=>trivial
def GH (bt kk:Nat) (Bz N:Nat) (QK:AT→Prop) (vC:Value) (tC:AT):Nat→Value→World→Prop
 |0,v,w=>v=vC
 |1,v,w=>v= .pointer (some ⟨bt,0,none⟩)
 |2,v,w=> ∃k:Nat,k<5∧v= .int .i64 k
 |3,v,w=> ∃k:Nat,k<5∧v= .int .i64 (50+(k:Int))
 |4,v,w=> ∃k:Nat,k<5∧v= .int .u8 (UInt8.ofNat (50+k)).toNat
 |5,v,w=> ∃b,∃k:Nat,k<5∧v= .slice (some ⟨b,0,none⟩) 1 1∧Blk w b 5 (cellsB [UInt8.ofNat (50+k)])
 |6,v,w=> ∃k:Nat,k<5∧v= .string (bs [UInt8.ofNat (50+k)])
 |7,v,w=> ∃s∈lH,v= .string (bs s)
 |8,v,w=>v= .pointer (some ⟨bt,0,none⟩)
 |9,v,w=> ∃kt,KidOk w Bz N QK vC v kt
 |10,v,w=> ∃s∈lH,∃K kt,v= .agg #[.string (bs s),nS,.string (bs []),nS,K]∧KidOk w Bz N QK vC K kt
 |11,v,w=> ∃s∈lH,∃K kt,RdS w 43 5 v 1 (encM [mE s K])∧KidOk w Bz N QK vC K kt
 |12,v,w=> ∃s∈lH,∃kt,Out Bz w v (tC.snoc ⟨s,[],[]⟩ kt)∧QK kt∧kt.size≤N
 |_,_,_=>True
theorem GH.tp {bt kk:Nat} {Bz N B:Nat} {QK:AT→Prop} {vC:Value} {tC:AT} {w w':World} (hT:Tp w B bt) (hc:Chg w w' (· =bt)): ∀j u,GH bt kk Bz N QK vC tC j u w→GH bt kk Bz N QK vC tC j u w'
 |0,u,h=>h
 |1,u,h=>h
 |2,u,h=>h
 |3,u,h=>h
 |4,u,h=>h
 |5,u,⟨b,k,h1,h2,h3⟩=>⟨b,k,h1,h2,keepT hT hc _ _ _ (by decide) h3⟩
 |6,u,h=>h
 |7,u,h=>h
 |8,u,h=>h
 |9,u,⟨kt,h⟩=>⟨kt,h.tp hT hc⟩
 |10,u,⟨s,hs,K,kt,h1,h2⟩=>⟨s,hs,K,kt,h1,h2.tp hT hc⟩
 |11,u,⟨s,hs,K,kt,h1,h2⟩=>⟨s,hs,K,kt,RdS.tp h1 hT hc (by decide),h2.tp hT hc⟩
 |12,u,⟨s,hs,kt,h1,h2⟩=>⟨s,hs,kt,h1.tp hT hc,h2⟩
 |_+13,u,h=>trivial
theorem GH.no {bt kk:Nat} {Bz N B:Nat} {QK:AT→Prop} {vC:Value} {tC:AT} {w w':World} (hT:Tp w B bt) (hc:Chg w w' No) (j:Nat) (u:Value) (h:GH bt kk Bz N QK vC tC j u w):GH bt kk Bz N QK vC tC j u w':=GH.tp hT (hc.mono (fun _ _ h=>h.elim)) j u h
def killGH:Nat→Nat
 |11=>12
 |_=>100
theorem GH.own {bt kk:Nat} {Bz N:Nat} {QK:AT→Prop} {vC:Value} {tC:AT} {w w':World} (hO:Out Bz w vC tC) (hc:Chg w w' (fun j=>vC.ownBlock=some j)): ∀j u,j≠12→killGH j≠12→GH bt kk Bz N QK vC tC j u w→GH bt kk Bz N QK vC tC j u w'
 |0,u,_,_,h=>h
 |1,u,_,_,h=>h
 |2,u,_,_,h=>h
 |3,u,_,_,h=>h
 |4,u,_,_,h=>h
 |5,u,_,_,⟨b,k,h1,h2,h3⟩=>⟨b,k,h1,h2,hO.blk hc h3⟩
 |6,u,_,_,h=>h
 |7,u,_,_,h=>h
 |8,u,_,_,h=>h
 |9,u,_,_,⟨kt,h⟩=>⟨kt,h.own hO hc⟩
 |10,u,_,_,⟨s,hs,K,kt,h1,h2⟩=>⟨s,hs,K,kt,h1,h2.own hO hc⟩
 |11,u,_,hk,h=>absurd rfl hk
 |12,u,h13,_,h=>absurd rfl h13
 |_+13,u,_,_,h=>trivial
def lUl:List (List UInt8):= [[117,108],[111,108]]
theorem lUl_nm: ∀x∈lUl,x∈lNm:=by decide
def nLi:List UInt8:= [108,105]
def nBq:List UInt8:= [98,108,111,99,107,113,117,111,116,101]
theorem rb_of {w:World} {b:Nat} {l:List UInt8} (h:Blk w b 5 (cellsB l)):RB w (.slice (some ⟨b,0,none⟩) l.length l.length) l:=by
 refine ⟨_,_,rfl,Nat.le_refl _,fun hl=>⟨b,0,rfl,fun i hi=> ?_⟩⟩
 rw [Nat.zero_add,h.cell i]
 exact cellsB_at l i hi
theorem blZ_div: ∀d,1100≤blZ d / 3
 |0=>by decide
 |d+1=>by have:=blZ_ge d;simp only [blZ];omega
theorem blocks_body {lv d:Nat} (hl:lv≤50) (hd100:blZ d≤1000000000) (hrec:lv≤3→ ∃d',d=d'+1∧BlkC (lv+1) d'∧ItemC (lv+1) d'∧ItemC (lv+2) d'):BlkC lv d:=by
 intro w B bt li hT0 hli
 subst hli
 have hbtlt:=hT0.lt
 have hbtge:=hT0.ge
 refine zCz 116 Tryz.func19 ?_
 refine zz ?_
 refine zCl rfl (next_calls hT0 3 (by decide) (by decide) rfl) ?_
 rintro _ w1 ⟨⟨kn,hkn,rfl⟩,hT1,hC1⟩
 refine ⟨_,rfl,?_⟩
 have hE:=blZ_div d
 refine zz ?_
 refine zc_loopW (ι:=Nat×Value×AT) (fun q u=> [(0,.pointer (some ⟨bt,0,none⟩)),(1,.int .i64 lv),(5,q.2.1),(6,.int .i64 (1+(kn:Int))),(7,.int .i64 q.1)])
  (fun q u=>q.1≤1+kn∧Out w.heap.size u q.2.1 q.2.2∧q.2.2.okc tBlk (4*d+10)∧q.2.2.len=q.1∧q.2.2.size+(1+kn - q.1)*(blZ d / 3)≤(1+kn)*(blZ d / 3)∧Tp u B bt∧Chg w u (· =bt)) (fun q u=>1+kn - q.1) (0,nS,.nil) ⟨Nat.zero_le _,Out.nil,AT.okc_nil _ _,rfl,by simp [AT.size],hT1,hC1⟩ ?_ ?_
 ·exact ⟨rfl,rfl,rfl,rfl,rfl,trivial⟩
 rintro ⟨i,vo,t⟩ u ⟨hi,hO,hok,hlen,hsz,hT,hC⟩
 dsimp only at hi hO hok hlen hsz hT hC ⊢
 have hws:=hC.size
 by_cases hlt:i<1+kn
 rotate_left
 ·obtain rfl:i=1+kn:=by omega
  refine zz ?_
  have hz:(1+kn)*(blZ d / 3)≤blZ d:=by
   have h1:=Nat.mul_le_mul_right (blZ d / 3) (show 1+kn≤3 by omega)
   have h2:=Nat.mul_div_le (blZ d) 3
   omega
  exact zk_ret1 (.inr rfl) rfl rfl ⟨_,t,rfl,hO,hok,by omega,hT,hC,by omega⟩
 obtain ⟨A0,c0,hvo,hc0⟩:=hO.form
 subst hvo
 have hlt3:t.len≤3:=by omega
 refine zz ?_
 refine zCl rfl (next_calls hT 12 (by decide) (by decide) rfl) ?_
 rintro _ u1 ⟨⟨k0,hk0,rfl⟩,hTa,hXa⟩
 refine ⟨_,rfl,?_⟩
 have hOa:=hO.tp hT hXa
 have hCa:Chg w u1 (· =bt):=hC.trans hXa (fun _ _ h=>h)
 have hsa:=hCa.size
 refine zP rfl (zN (zK ?_))
 refine zc_midX (ι:=Nat) (fun k u'=>u'=u1∧k<12∧(3<lv→k<6)) (fun k=> [(0,.pointer (some ⟨bt,0,none⟩)),(1,.int .i64 lv),(5,.slice A0 t.len c0),(6,.int .i64 (1+(kn:Int))),(7,.int .i64 i),(8,.int .i64 k)]) ?_ ?_
 ·by_cases h3:3<lv
  ·refine zz ?_
   refine z_rem (want_L rfl) (by decide) rfl rfl (by decide) ?_
   have e6:(k0:Int).tmod 6=((k0%6:Nat):Int):=by rw [Int.tmod_eq_emod_of_nonneg (by omega)];omega
   refine zP rfl (zN ?_)
   exact zk_midX (k0%6) ⟨rfl,by omega,fun _=>by omega⟩ ⟨rfl,rfl,rfl,rfl,rfl,get_int rfl e6,trivial⟩
  ·refine zz ?_
   exact zk_midX k0 ⟨rfl,hk0,fun h=>absurd h h3⟩ ⟨rfl,rfl,rfl,rfl,rfl,rfl,trivial⟩
 rintro k uq ⟨huq,hk12,hk6⟩
 obtain rfl:=huq.symm
 refine zc_midBX (ι:=Value×AT) (fun q u'=>Out w.heap.size u' q.1 q.2∧q.2.okc tBlk (4*d+10)∧q.2.len=i+1∧q.2.size≤t.size+blZ d / 3∧Tp u' B bt∧Chg w u' (· =bt)) (fun q=> [(0,.pointer (some ⟨bt,0,none⟩)),(1,.int .i64 lv),(5,q.1),(6,.int .i64 (1+(kn:Int))),(7,.int .i64 i)]) ?_ ?_
 rotate_left
 ·rintro ⟨vo',t'⟩ u' ⟨g1,g2,g3,g4,g5,g6⟩
  dsimp only at g1 g2 g3 g4 g5 g6 ⊢
  refine zz ?_
  refine zk_loopW (i+1,vo',t') ⟨by omega,g1,g2,g3,?_,g5,g6⟩ (by show 1+kn - (i+1)<1+kn - i;omega) ⟨rfl,rfl,rfl,rfl,get_int rfl (by simp),trivial⟩
  dsimp only
  obtain ⟨m,hm⟩: ∃m,1+kn - i=m+1:=⟨1+kn - i - 1,by omega⟩
  rw [hm,Nat.add_mul,Nat.one_mul] at hsz
  rw [show 1+kn - (i+1)=m by omega];omega
 by_cases hk4:k<4
 ·refine zz ?_
  refine zc_drawK 10 (GP bt k w.heap.size 1093 AT.okf (.slice A0 t.len c0) t) killGP (fun b z'=>Tp z' B bt∧Chg w z' (· =bt)∧w.heap.size≤z'.heap.size∧(b.getD 9 false=false→Out w.heap.size z' (.slice A0 t.len c0) t))
   [(0,.pointer (some ⟨bt,0,none⟩)),(1,.int .i64 lv),(5,.slice A0 t.len c0),(6,.int .i64 (1+(kn:Int))),(7,.int .i64 i),(8,.int .i64 k)] (by rfl) (by kernel_rfl) (by kernel_rfl) ⟨rfl,rfl,rfl,rfl,rfl,rfl,trivial⟩ (fun z' hz _=>⟨hTa.no hz,hCa.no hz,by have:=hz.size;omega,fun _=>hOa.no hz⟩) ?_ (by decide) (fun _=>⟨by kernel_rfl,by kernel_rfl⟩) ?_
  ·intro i' hi' b a y hbsz hbi hcl hL
   obtain ⟨hok',⟨hTy,hCy,hszy,hOut⟩,hd⟩:=hL
   have hstay: ∀{j:Nat},j≠9→(b.setIfInBounds j true).getD 9 false=false→b.getD 9 false=false:=fun hj h=>by rwa [gd_ne hj] at h
   have hnew: ∀{y':World},Chg y y' No→ ∀{j:Nat},j≠9→(Tp y' B bt∧Chg w y' (· =bt)∧w.heap.size≤y'.heap.size∧((b.setIfInBounds j true).getD 9 false=false→Out w.heap.size y' (.slice A0 t.len c0) t)):=fun hy j hj=>⟨hTy.no hy,hCy.no hy,by have:=hy.size;omega,fun h=>(hOut (hstay hj h)).no hy⟩
   have hnx: ∀{y':World},Tp y' B bt→Chg y y' (· =bt)→ ∀{j:Nat},j≠9→(Tp y' B bt∧Chg w y' (· =bt)∧w.heap.size≤y'.heap.size∧((b.setIfInBounds j true).getD 9 false=false→Out w.heap.size y' (.slice A0 t.len c0) t)):=fun hT' hy j hj=>⟨hT',hCy.trans hy (fun _ _ h=>h),by have:=hy.size;omega,fun h=>(hOut (hstay hj h)).tp hTy hy⟩
   have hsame:=fun {j:Nat} (hj:j≠9)=>hnew (Chg.refl y No) hj
   have g: ∀j,waits _ i' j=true→(killGP j=i'∨10≤killGP j)→ ∀dj,dstOf _ j=some dj→ ∃v,a.tmps[dj]? =some v∧GP bt k w.heap.size 1093 AT.okf (.slice A0 t.len c0) t j v y:=fun j hw hk dj hdj=>by
    obtain ⟨v,h1,h2⟩:=hd j hw dj hdj
    exact ⟨v,h1,h2 (fun hh=>hh hk)⟩
   match i',hi' with
   |0,_=>exact ⟨35,rfl,wo_pure rfl hok' rfl ⟨_,rfl,rfl,hsame (by decide),fun _ _ _ _ h=>h⟩⟩
   |1,_=>
    have hN:=New.mk' y 9 (strs lP)
    exact ⟨36,rfl,wo_run rfl (want_L rfl) rfl hok' (run_bsE (strs lP) rfl (by decide) (by decide) (by kernel_rfl)) ⟨_,rfl,⟨_,rfl,hN.blk⟩,hnew hN.chg (by decide),fun j u _ _ h=>GP.no hTy hN.chg j u h⟩⟩
   |2,_=>exact ⟨37,rfl,wo_pure rfl hok' rfl ⟨_,rfl,rfl,hsame (by decide),fun _ _ _ _ h=>h⟩⟩
   |3,_=>
    obtain ⟨v0,h0,bq,rfl,hb⟩:=g 1 (by kernel_rfl) (by decide) _ rfl
    obtain ⟨v2,h2,rfl⟩:=g 2 (by kernel_rfl) (by decide) _ rfl
    exact ⟨38,rfl,wo_run rfl (want_L rfl) rfl ((hok'.cons h0).cons h2) (r_ia rfl rfl (by omega) (by omega)) ⟨_,rfl,⟨bq,by simp,hb⟩,hsame (by decide),fun _ _ _ _ h=>h⟩⟩
   |4,_=>
    obtain ⟨v3,h3,bq,rfl,hb⟩:=g 3 (by kernel_rfl) (by decide) _ rfl
    exact ⟨39,rfl,wo_run rfl (want_L rfl) rfl (hok'.cons h3) (r_load1 rfl ((hb.cell k).trans (strs_get lP k hk4))) ⟨_,rfl,⟨_,getD_mem lP k hk4,rfl⟩,hsame (by decide),fun _ _ _ _ h=>h⟩⟩
   |5,_=>exact ⟨40,rfl,wo_pure rfl hok' rfl ⟨_,rfl,rfl,hsame (by decide),fun _ _ _ _ h=>h⟩⟩
   |6,_=>
    obtain ⟨v7,h7,rfl⟩:=g 5 (by kernel_rfl) (by decide) _ rfl
    have hb13:b.getD 9 false=false:=by
     rcases h13:b.getD 9 false with _|_
     ·rfl
     ·skip
      have e0:=hcl 9 8 h13 (by kernel_rfl)
      have e1:=hcl 8 7 e0 (by kernel_rfl)
      have e2:=hcl 7 6 e1 (by kernel_rfl)
      rw [hbi] at e2;cases e2
    have hO:=hOut hb13
    refine ⟨41,rfl,wo_call rfl (want_L rfl) rfl (hok'.cons h7) rfl (full_calls hTy) ?_⟩
    rintro _ y' ⟨vK,kt,rfl,hK,hkok,hks,hT',hC'⟩
    exact ⟨_,rfl,_,rfl,⟨kt,TreeOk.under hO (by omega) (Nat.le_refl _) hK.tree,hkok,hks⟩,hnx hT' hC' (by decide),fun j u _ _ h=>GP.tp hTy hC' j u h⟩
   |7,_=>
    obtain ⟨v6,h6,s,hs,rfl⟩:=g 4 (by kernel_rfl) (by decide) _ rfl
    obtain ⟨v10,h10,kt,hk⟩:=g 6 (by kernel_rfl) (by decide) _ rfl
    obtain ⟨AK,cK,rfl,_⟩:=hk.form
    exact ⟨42,rfl,wo_run rfl (want_L rfl) rfl ((hok'.cons h6).cons h10) (r_build' (cells:= #[.string (bs s),nS,.string (bs []),nS,.slice AK kt.len cK]) rfl (by kernel_rfl)) ⟨_,rfl,⟨s,hs,_,kt,rfl,hk⟩,hsame (by decide),fun _ _ _ _ h=>h⟩⟩
   |8,_=>
    obtain ⟨v11,h11,s,hs,K,kt,rfl,hk⟩:=g 7 (by kernel_rfl) (by decide) _ rfl
    have hN:=New.mk' y 43 (encM [mE s K])
    have hrd:=RdS.art (x:=⟨s,[],[]⟩) ⟨rfl,AtS.nil _,rfl,isSl_nil⟩ hk.1 hN
    obtain ⟨AK,cK,rfl,_⟩:=hk.form
    exact ⟨43,rfl,wo_run rfl (want_L rfl) rfl (hok'.cons h11) (run_bsE (encM [mE s (.slice AK kt.len cK)]) rfl (by decide) (by decide) (by kernel_rfl)) ⟨_,rfl,⟨s,hs,_,kt,hrd,hk.tp hTy (hN.chg.mono (fun _ _ h=>h.elim))⟩,hnew hN.chg (by decide),fun j u _ _ h=>GP.no hTy hN.chg j u h⟩⟩
   |9,_=>
    obtain ⟨v1,h1,rfl⟩:=g 0 (by kernel_rfl) (by decide) _ rfl
    obtain ⟨v12,h12,s,hs,K,kt,hr12,hk⟩:=g 8 (by kernel_rfl) (by decide) _ rfl
    have hO:=hOut hbi
    refine ⟨44,rfl,wo_push rfl (want_L rfl) ((hok'.cons h1).cons h12) rfl rfl hO hr12 hk hszy (by omega) (fun v' y' hO' hC'=> ?_)⟩
    refine ⟨v',rfl,⟨s,hs,kt,hO',hk.2⟩,⟨hTy.own hO (by omega) hC',Chg.own hCy hO (Nat.le_refl _) hC',by have:=hC'.size;omega,fun h=> ?_⟩,fun j u hj hk' h=>GP.own hO hC' j u hj hk' h⟩
    have h':9<b.size:=by rw [hbsz];decide
    simp [h'] at h
  ·intro b a y hL
   obtain ⟨hok',⟨hTy,hCy,hszy,_⟩,hd⟩:=hL
   obtain ⟨v13,h13,g13⟩:=hd 9 (by decide) _ rfl
   obtain ⟨s,hs,kt,hO',hkok,hks⟩:=g13 (by decide)
   obtain ⟨A',c',rfl,hcc'⟩:=hO'.form
   rw [if_pos (by decide)]
   refine wo_pure rfl (hok'.cons h13) rfl ?_
   refine np_zk (e:=(5,.slice A' (t.snoc ⟨s,[],[]⟩ kt).len c')::(44,.slice A' (t.snoc ⟨s,[],[]⟩ kt).len c'):: [(0,.pointer (some ⟨bt,0,none⟩)),(1,.int .i64 lv),(5,.slice A0 t.len c0),(6,.int .i64 (1+(kn:Int))),(7,.int .i64 i),(8,.int .i64 k)]) ?_ ((hok'.cons h13).put 5 _ (by decide))
   refine zM (zM ?_)
   exact zk_midX (.slice A' (t.snoc ⟨s,[],[]⟩ kt).len c',t.snoc ⟨s,[],[]⟩ kt) ⟨hO',AT.okc_snoc hok (hdN (lP_nm s hs)) ((show∀a∈lP,a∈tBlk by decide) s hs) ((show∀a∈lP,a≠ [] by decide) s hs) (kids_line ((show∀a∈lP,a∈([[104,50],[104,51],[104,52],[104,53],[104,54],[112],[112,114,101]]:List (List UInt8)) by decide) s hs) hkok.2.2.1) hkok.1 hkok.2.1 (by have:=hkok.2.2.2;omega),by rw [AT.snoc_len,hlen],by rw [AT.snoc_size];omega,hTy,hCy⟩ ⟨rfl,rfl,rfl,rfl,rfl,trivial⟩
 by_cases hk44:k=4
 ·subst hk44
  refine zz ?_
  refine z_buildE #[.string (bs nHr),nS,.string (bs []),nS,nS] (want_L rfl) (by decide) rfl (by kernel_rfl) ?_
  refine z_bsE (encM [mE nHr nS]) (want_L rfl) (by decide) rfl (by decide) (by decide) (by kernel_rfl) (fun p1 pb hP=> ?_)
  refine z_push (h:=⟨nHr,[],[]⟩) (k:= .nil) (m:=mE nHr nS) (want_L rfl) (by decide) rfl rfl hOa ⟨rfl,AtS.nil _,rfl,isSl_nil⟩ TreeOk.nil (by have:=hCa.size;omega) hP (by omega) (fun p2 q2 hP2 hPC=> ?_)
  have hPT:=hTa.own hOa (by omega) hPC
  have hPW:=Chg.own hCa hOa (Nat.le_refl _) hPC
  obtain ⟨pA,pc,hpv,_⟩:=hP2.form
  subst hpv
  refine zz ?_
  exact zk_midX (.slice pA _ pc,t.snoc ⟨nHr,[],[]⟩ .nil) ⟨hP2,AT.okc_snoc hok (hdN (by decide)) (by decide:nHr∈tBlk) (by decide:nHr≠ []) (kids_leaf (by decide) rfl) trivial trivial (by show 1+0≤_;omega),by rw [AT.snoc_len,hlen],by rw [AT.snoc_size];simp only [AT.size];omega,hPT,hPW⟩ ⟨rfl,rfl,rfl,rfl,rfl,trivial⟩
 by_cases hk5:k=5
 ·subst hk5
  refine zz ?_
  refine zc_drawK 13 (GH bt 0 w.heap.size 1093 AT.okf (.slice A0 t.len c0) t) killGH (fun b z'=>Tp z' B bt∧Chg w z' (· =bt)∧w.heap.size≤z'.heap.size∧(b.getD 12 false=false→Out w.heap.size z' (.slice A0 t.len c0) t))
   [(0,.pointer (some ⟨bt,0,none⟩)),(1,.int .i64 lv),(5,.slice A0 t.len c0),(6,.int .i64 (1+(kn:Int))),(7,.int .i64 i),(8,.int .i64 ((5:Nat):Int))] (by rfl) (by kernel_rfl) (by kernel_rfl) ⟨rfl,rfl,rfl,rfl,rfl,rfl,trivial⟩ (fun z' hz _=>⟨hTa.no hz,hCa.no hz,by have:=hz.size;omega,fun _=>hOa.no hz⟩) ?_ (by decide) (fun _=>⟨by kernel_rfl,by kernel_rfl⟩) ?_
  ·intro i' hi' b a y hbsz hbi hcl hL
   obtain ⟨hok',⟨hTy,hCy,hszy,hOut⟩,hd⟩:=hL
   have hstay: ∀{j:Nat},j≠12→(b.setIfInBounds j true).getD 12 false=false→b.getD 12 false=false:=fun hj h=>by rwa [gd_ne hj] at h
   have hnew: ∀{y':World},Chg y y' No→ ∀{j:Nat},j≠12→(Tp y' B bt∧Chg w y' (· =bt)∧w.heap.size≤y'.heap.size∧((b.setIfInBounds j true).getD 12 false=false→Out w.heap.size y' (.slice A0 t.len c0) t)):=fun hy j hj=>⟨hTy.no hy,hCy.no hy,by have:=hy.size;omega,fun h=>(hOut (hstay hj h)).no hy⟩
   have hnx: ∀{y':World},Tp y' B bt→Chg y y' (· =bt)→ ∀{j:Nat},j≠12→(Tp y' B bt∧Chg w y' (· =bt)∧w.heap.size≤y'.heap.size∧((b.setIfInBounds j true).getD 12 false=false→Out w.heap.size y' (.slice A0 t.len c0) t)):=fun hT' hy j hj=>⟨hT',hCy.trans hy (fun _ _ h=>h),by have:=hy.size;omega,fun h=>(hOut (hstay hj h)).tp hTy hy⟩
   have hsame:=fun {j:Nat} (hj:j≠12)=>hnew (Chg.refl y No) hj
   have g: ∀j,waits _ i' j=true→(killGH j=i'∨13≤killGH j)→ ∀dj,dstOf _ j=some dj→ ∃v,a.tmps[dj]? =some v∧GH bt 0 w.heap.size 1093 AT.okf (.slice A0 t.len c0) t j v y:=fun j hw hk dj hdj=>by
    obtain ⟨v,h1,h2⟩:=hd j hw dj hdj
    exact ⟨v,h1,h2 (fun hh=>hh hk)⟩
   match i',hi' with
   |0,_=>exact ⟨55,rfl,wo_pure rfl hok' rfl ⟨_,rfl,rfl,hsame (by decide),fun _ _ _ _ h=>h⟩⟩
   |1,_=>exact ⟨56,rfl,wo_pure rfl hok' rfl ⟨_,rfl,rfl,hsame (by decide),fun _ _ _ _ h=>h⟩⟩
   |2,_=>
    obtain ⟨v1,h1,rfl⟩:=g 1 (by kernel_rfl) (by decide) _ rfl
    refine ⟨57,rfl,wo_call rfl (want_L rfl) rfl (hok'.cons h1) rfl (next_calls hTy 5 (by decide) (by decide) rfl) ?_⟩
    rintro _ y' ⟨⟨k,hk,rfl⟩,hT',hC'⟩
    exact ⟨_,rfl,_,rfl,⟨k,hk,rfl⟩,hnx hT' hC' (by decide),fun j u _ _ h=>GH.tp hTy hC' j u h⟩
   |3,_=>
    obtain ⟨v1,h1,k,hk,rfl⟩:=g 2 (by kernel_rfl) (by decide) _ rfl
    exact ⟨58,rfl,wo_run rfl (want_L rfl) rfl (hok'.cons h1) (r_add rfl rfl (by omega) (by omega)) ⟨_,rfl,⟨k,hk,rfl⟩,hsame (by decide),fun _ _ _ _ h=>h⟩⟩
   |4,_=>
    obtain ⟨v1,h1,k,hk,rfl⟩:=g 3 (by kernel_rfl) (by decide) _ rfl
    exact ⟨59,rfl,wo_run rfl (want_L rfl) rfl (hok'.cons h1) (r_convI (j:=(UInt8.ofNat (50+k)).toNat) rfl (by rcases (by omega:k=0∨k=1∨k=2∨k=3∨k=4) with rfl|rfl|rfl|rfl|rfl<;>rfl)) ⟨_,rfl,⟨k,hk,rfl⟩,hsame (by decide),fun _ _ _ _ h=>h⟩⟩
   |5,_=>
    obtain ⟨v1,h1,k,hk,rfl⟩:=g 4 (by kernel_rfl) (by decide) _ rfl
    have hN:=New.mk' y 5 (cellsB [UInt8.ofNat (50+k)])
    exact ⟨60,rfl,wo_run rfl (want_L rfl) rfl (hok'.cons h1) (run_bs1 rfl (by rfl) (by rfl) (by decide) (by decide)) ⟨_,rfl,⟨_,k,hk,rfl,hN.blk⟩,hnew hN.chg (by decide),fun j u _ _ h=>GH.no hTy hN.chg j u h⟩⟩
   |6,_=>
    obtain ⟨v1,h1,bq,k,hk,rfl,hb⟩:=g 5 (by kernel_rfl) (by decide) _ rfl
    exact ⟨61,rfl,wo_run rfl (want_L rfl) rfl (hok'.cons h1) (r_convBS (l:= [UInt8.ofNat (50+k)]) rfl (rb_of hb)) ⟨_,rfl,⟨k,hk,rfl⟩,hsame (by decide),fun _ _ _ _ h=>h⟩⟩
   |7,_=>
    obtain ⟨v1,h1,k,hk,rfl⟩:=g 6 (by kernel_rfl) (by decide) _ rfl
    exact ⟨62,rfl,wo_run rfl (want_L rfl) rfl (hok'.cons h1) (r_catL (l:= [104]) (r:= [UInt8.ofNat (50+k)]) rfl rfl (by simp only [List.length_cons,List.length_nil];omega)) ⟨_,rfl,⟨_,by rcases (by omega:k=0∨k=1∨k=2∨k=3∨k=4) with rfl|rfl|rfl|rfl|rfl<;>decide,rfl⟩,hsame (by decide),fun _ _ _ _ h=>h⟩⟩
   |8,_=>exact ⟨63,rfl,wo_pure rfl hok' rfl ⟨_,rfl,rfl,hsame (by decide),fun _ _ _ _ h=>h⟩⟩
   |9,_=>
    obtain ⟨v7,h7,rfl⟩:=g 8 (by kernel_rfl) (by decide) _ rfl
    have hb13:b.getD 12 false=false:=by
     rcases h13:b.getD 12 false with _|_
     ·rfl
     ·skip
      have e0:=hcl 12 11 h13 (by kernel_rfl)
      have e1:=hcl 11 10 e0 (by kernel_rfl)
      have e2:=hcl 10 9 e1 (by kernel_rfl)
      rw [hbi] at e2;cases e2
    have hO:=hOut hb13
    refine ⟨64,rfl,wo_call rfl (want_L rfl) rfl (hok'.cons h7) rfl (full_calls hTy) ?_⟩
    rintro _ y' ⟨vK,kt,rfl,hK,hkok,hks,hT',hC'⟩
    exact ⟨_,rfl,_,rfl,⟨kt,TreeOk.under hO (by omega) (Nat.le_refl _) hK.tree,hkok,hks⟩,hnx hT' hC' (by decide),fun j u _ _ h=>GH.tp hTy hC' j u h⟩
   |10,_=>
    obtain ⟨v6,h6,s,hs,rfl⟩:=g 7 (by kernel_rfl) (by decide) _ rfl
    obtain ⟨v10,h10,kt,hk⟩:=g 9 (by kernel_rfl) (by decide) _ rfl
    obtain ⟨AK,cK,rfl,_⟩:=hk.form
    exact ⟨65,rfl,wo_run rfl (want_L rfl) rfl ((hok'.cons h6).cons h10) (r_build' (cells:= #[.string (bs s),nS,.string (bs []),nS,.slice AK kt.len cK]) rfl (by kernel_rfl)) ⟨_,rfl,⟨s,hs,_,kt,rfl,hk⟩,hsame (by decide),fun _ _ _ _ h=>h⟩⟩
   |11,_=>
    obtain ⟨v11,h11,s,hs,K,kt,rfl,hk⟩:=g 10 (by kernel_rfl) (by decide) _ rfl
    have hN:=New.mk' y 43 (encM [mE s K])
    have hrd:=RdS.art (x:=⟨s,[],[]⟩) ⟨rfl,AtS.nil _,rfl,isSl_nil⟩ hk.1 hN
    obtain ⟨AK,cK,rfl,_⟩:=hk.form
    exact ⟨66,rfl,wo_run rfl (want_L rfl) rfl (hok'.cons h11) (run_bsE (encM [mE s (.slice AK kt.len cK)]) rfl (by decide) (by decide) (by kernel_rfl)) ⟨_,rfl,⟨s,hs,_,kt,hrd,hk.tp hTy (hN.chg.mono (fun _ _ h=>h.elim))⟩,hnew hN.chg (by decide),fun j u _ _ h=>GH.no hTy hN.chg j u h⟩⟩
   |12,_=>
    obtain ⟨v1,h1,rfl⟩:=g 0 (by kernel_rfl) (by decide) _ rfl
    obtain ⟨v12,h12,s,hs,K,kt,hr12,hk⟩:=g 11 (by kernel_rfl) (by decide) _ rfl
    have hO:=hOut hbi
    refine ⟨67,rfl,wo_push rfl (want_L rfl) ((hok'.cons h1).cons h12) rfl rfl hO hr12 hk hszy (by omega) (fun v' y' hO' hC'=> ?_)⟩
    refine ⟨v',rfl,⟨s,hs,kt,hO',hk.2⟩,⟨hTy.own hO (by omega) hC',Chg.own hCy hO (Nat.le_refl _) hC',by have:=hC'.size;omega,fun h=> ?_⟩,fun j u hj hk' h=>GH.own hO hC' j u hj hk' h⟩
    have h':12<b.size:=by rw [hbsz];decide
    simp [h'] at h
  ·intro b a y hL
   obtain ⟨hok',⟨hTy,hCy,hszy,_⟩,hd⟩:=hL
   obtain ⟨v13,h13,g13⟩:=hd 12 (by decide) _ rfl
   obtain ⟨s,hs,kt,hO',hkok,hks⟩:=g13 (by decide)
   obtain ⟨A',c',rfl,hcc'⟩:=hO'.form
   rw [if_pos (by decide)]
   refine wo_pure rfl (hok'.cons h13) rfl ?_
   refine np_zk (e:=(5,.slice A' (t.snoc ⟨s,[],[]⟩ kt).len c')::(67,.slice A' (t.snoc ⟨s,[],[]⟩ kt).len c'):: [(0,.pointer (some ⟨bt,0,none⟩)),(1,.int .i64 lv),(5,.slice A0 t.len c0),(6,.int .i64 (1+(kn:Int))),(7,.int .i64 i),(8,.int .i64 ((5:Nat):Int))]) ?_ ((hok'.cons h13).put 5 _ (by decide))
   refine zM (zM ?_)
   exact zk_midX (.slice A' (t.snoc ⟨s,[],[]⟩ kt).len c',t.snoc ⟨s,[],[]⟩ kt) ⟨hO',AT.okc_snoc hok (hdN (lH_nm s hs)) ((show∀a∈lH,a∈tBlk by decide) s hs) ((show∀a∈lH,a≠ [] by decide) s hs) (kids_line ((show∀a∈lH,a∈([[104,50],[104,51],[104,52],[104,53],[104,54],[112],[112,114,101]]:List (List UInt8)) by decide) s hs) hkok.2.2.1) hkok.1 hkok.2.1 (by have:=hkok.2.2.2;omega),by rw [AT.snoc_len,hlen],by rw [AT.snoc_size];omega,hTy,hCy⟩ ⟨rfl,rfl,rfl,rfl,rfl,trivial⟩
 obtain ⟨d',rfl,hB1,hI1,hI2⟩:=hrec (by omega)
 have hz4:=blZ_ge d'
 have hzd:blZ (d'+1)=13*blZ d':=rfl
 by_cases hk9:k<9
 ·refine zz ?_
  refine z_bsE (strs lUl) (want_L rfl) (by decide) rfl (by decide) (by decide) (by kernel_rfl) (fun y1 c1 hN1=> ?_)
  refine zP rfl ?_
  refine z_rem (want_L rfl) (by decide) rfl rfl (by decide) ?_
  have e2:(k:Int).tmod 2=((k%2:Nat):Int):=by rw [Int.tmod_eq_emod_of_nonneg (by omega)];omega
  rw [e2]
  have hk2:k%2<2:=by omega
  have hcl:=(hN1.blk.cell (k%2)).trans (strs_get lUl (k%2) hk2)
  have hml:=lUl_nm _ (getD_mem lUl (k%2) hk2)
  have hmu:=getD_mem lUl (k%2) hk2
  generalize lUl.getD (k%2) []=nm at hcl hml hmu
  refine zIa rfl rfl (zL1 rfl (cell_at hcl (by omega)) ?_)
  refine z_buildE #[.string (bs nm),nS,.string (bs []),nS,nS] (want_L rfl) (by decide) rfl (by kernel_rfl) ?_
  refine zAl (fun y2 b9 hN2=> ?_)
  have hb92:Blk y2 b9 43 [.string ⟨#[]⟩,nS,.string ⟨#[]⟩,nS,nS]:=hN2.blk
  refine z_store (want_L rfl) rfl rfl rfl (by assumption) (by first|exact Nat.le_refl _|simp [Value.cells]) (by simp [Value.cells,Value.oneCell']) (fun y3 hU3=> ?_)
  have hb93:Blk y3 b9 43 [.string (bs nm),nS,.string (bs []),nS,nS]:=hU3.blk
  have hX3:Chg u1 y3 No:=hN1.chg.no (hN2.chg.upd hU3 (hN2.ge (Chg.refl _ No)))
  have hb9ge:u1.heap.size≤b9:=by have:=hN2.at_;have:=hN1.chg.size;omega
  have hb9lt:b9<y3.heap.size:=hb93.lt
  have hs3:=hX3.size
  refine zz ?_
  refine zc_loopW (ι:=Nat×Value×AT) (fun q z=> [(0,.pointer (some ⟨bt,0,none⟩)),(1,.int .i64 lv),(5,.slice A0 t.len c0),(6,.int .i64 (1+(kn:Int))),(7,.int .i64 i),(8,.int .i64 k),(9,.pointer (some ⟨b9,0,none⟩)),(10,.int .i64 q.1)])
   (fun q z=>q.1≤3∧Out y3.heap.size z q.2.1 q.2.2∧q.2.2.okc [tLi] (4*d'+11)∧q.2.2.len=q.1∧q.2.2.size≤q.1*(1+blZ d')∧Blk z b9 43 [.string (bs nm),nS,.string (bs []),nS,q.2.1]∧Tp z B bt∧Chg u1 z (· =bt)∧y3.heap.size≤z.heap.size) (fun q z=>4 - q.1) (0,nS,.nil)
   ⟨by decide,Out.nil,AT.okc_nil _ _,rfl,by simp [AT.size],hb93,hTa.no hX3,hX3.mono (fun _ _ h=>h.elim),Nat.le_refl _⟩ ?_ ?_
  ·exact ⟨rfl,rfl,rfl,rfl,rfl,rfl,rfl,rfl,trivial⟩
  rintro ⟨j,vE,tE⟩ z ⟨hj,hOE,hokE,hlenE,hszE,hb9z,hTz,hCz,hsz3⟩
  dsimp only at hj hOE hokE hlenE hszE hb9z hTz hCz hsz3 ⊢
  obtain ⟨AE,cE,hvE,hcE⟩:=hOE.form
  subst hvE
  refine zz ?_
  refine zCl rfl (next_calls hTz 3 (by decide) (by decide) rfl) ?_
  rintro _ z1 ⟨⟨nj,hnj,rfl⟩,hTz1,hXz1⟩
  refine ⟨_,rfl,?_⟩
  have hOE1:=hOE.tp hTz hXz1
  have hb9z1:=keepT hTz hXz1 _ _ _ (by decide) hb9z
  have hCz1:Chg u1 z1 (· =bt):=hCz.trans hXz1 (fun _ _ h=>h)
  have hsz1:=hXz1.size
  have hownE: ∀k,(Value.slice AE tE.len cE).ownBlock=some k→y3.heap.size≤k:=fun k hk=>by obtain ⟨ms,_,g2,_⟩:=hOE1;exact g2 k hk
  by_cases hle:j≤nj
  ·refine zz ?_
   refine zc_draw [10] (fun w'=>Blk w' b9 43 [.string (bs nm),nS,.string (bs []),nS,.slice AE tE.len cE]) (.take 0 (.take 1 (.take 2 (.take 3 (.take 4 (.all1 5 (.take 6 (.all1 7 (.all1 8 (.take 9 (.last 10))))))))))) (by rfl) (by kernel_rfl) (by kernel_rfl) (fun z2 hZ2 _=>⟨?_,?_⟩)
   ·exact hb9z1.no hZ2
   have hb9z2:=hb9z1.no hZ2
   have hTz2:=hTz1.no hZ2
   have hOE2:=hOE1.no hZ2
   have hCz2:Chg u1 z2 (· =bt):=hCz1.no hZ2
   have hsz2:=hZ2.size
   refine zz ?_
   refine zs_call rfl (want_L rfl) rfl (by decide) rfl (hI1 (li:=lv+1) hTz2 (by omega)) ?_
   rintro _ z3 ⟨vK,kt,rfl,hK,hkok,hks,hTz3,hXz3⟩
   have hb9z3:=keepT hTz2 hXz3 _ _ _ (by decide) hb9z2
   refine ⟨_,rfl,hb9z3,?_⟩
   have hOE3:=hOE2.tp hTz2 hXz3
   have hCz3:Chg u1 z3 (· =bt):=hCz2.trans hXz3 (fun _ _ h=>h)
   have hsz3':=hXz3.size
   obtain ⟨AK,cK,rfl,_⟩:=hK.form
   have hk3:KidOk z3 y3.heap.size (blZ d') (AT.oki (4*d'+10)) (.slice AE tE.len cE) (.slice AK kt.len cK) kt:=⟨TreeOk.under hOE2 (by omega) (Nat.le_refl _) hK.tree,hkok,hks⟩
   refine zRd rfl rfl (fun _ hS=>r_build' (cells:= #[.string (bs nLi),nS,.string (bs []),nS,.slice AK kt.len cK]) rfl (by kernel_rfl)) ?_
   refine zs_bsE (encM [mE nLi (.slice AK kt.len cK)]) rfl (want_L rfl) (by decide) rfl (by decide) (by decide) (by kernel_rfl) (fun z4 cb hM4=> ?_)
   have hb9z4:=hb9z3.no hM4.chg
   refine ⟨hb9z4,?_⟩
   have hr4:=RdS.art (x:=⟨nLi,[],[]⟩) ⟨rfl,AtS.nil _,rfl,isSl_nil⟩ hk3.1 hM4
   have hlE:=Out.len
   have hOE4:=hOE3.no hM4.chg
   have hTz4:=hTz3.no hM4.chg
   have hCz4:Chg u1 z4 (· =bt):=hCz3.no hM4.chg
   have hsz4:=hM4.chg.size
   have hOE3':=hOE3
   obtain ⟨ms,g1,g2,g3⟩:=hOE3'
   have hms:=Out.len _ g3
   refine zs_appendO rfl (by rfl) (by decide) (want_L rfl) (by decide) rfl rfl (g1.no hM4.chg) hr4 (by omega) (by omega) (fun v5 z5 hO5 hX5 hr5=> ?_)
   have hP5:=Out.push g1 g2 g3 (m:=mE nLi (.slice AK kt.len cK)) (x:=⟨nLi,[],[]⟩) ⟨rfl,AtS.nil _,rfl,isSl_nil⟩ hk3.1 (by omega) hM4.chg hO5 hX5 hr5
   have hb9z5:=hb9z4.chg hX5 (fun he=>by have:=hownE _ he;omega)
   refine ⟨hb9z5,?_⟩
   have hTz5:=hTz4.own hOE4 (by omega) hX5
   have hCz5:=Chg.own hCz4 hOE4 (by omega) hX5
   have hsz5:=hX5.size
   obtain ⟨A5,c5,rfl,_⟩:=hP5.form
   refine zRd rfl rfl (fun _ hS=>r_fa rfl) ?_
   refine zs_storeL rfl (want_L rfl) rfl rfl rfl (by assumption) (by first|exact Nat.le_refl _|simp [Value.cells]) (by simp [Value.cells,Value.oneCell']) (fun z6 hU6=> ?_)
   have hb9z6:Blk z6 b9 43 [.string (bs nm),nS,.string (bs []),nS,.slice A5 (tE.snoc ⟨nLi,[],[]⟩ kt).len c5]:=hU6.blk
   have hO6:Out y3.heap.size z6 (.slice A5 (tE.snoc ⟨nLi,[],[]⟩ kt).len c5) (tE.snoc ⟨nLi,[],[]⟩ kt):=hP5.chg hU6.chg (fun b' cells _ hb' he=>by omega) (fun b' cells hb' he=>hb'.ne hb9z5 (by decide) he)
   refine zz ?_
   refine zk_loopW (j+1,.slice A5 (tE.snoc ⟨nLi,[],[]⟩ kt).len c5,tE.snoc ⟨nLi,[],[]⟩ kt) ⟨by omega,hO6,AT.okc_snoc hokE (hdN (by decide)) (by decide:nLi∈ [tLi]) (by decide:nLi≠ []) (kids_cell (by decide) hkok.2.2.1) hkok.1 hkok.2.1 (by have:=hkok.2.2.2;omega),by rw [AT.snoc_len,hlenE],?_,hb9z6,hTz5.oth hU6.chg (fun he=>by omega) (fun k _ hk=>by omega),hCz5.trans hU6.chg (fun k hk he=>by omega),by have:=hU6.chg.size;omega⟩ (by show 4 - (j+1)<4 - j;omega) ⟨rfl,rfl,rfl,rfl,rfl,rfl,rfl,get_int rfl (by simp),trivial⟩
   dsimp only
   rw [AT.snoc_size,Nat.add_mul,Nat.one_mul];omega
  ·have hszE3:tE.size≤3*(1+blZ d'):=Nat.le_trans hszE (Nat.mul_le_mul_right _ hj)
   have hOaz:=hOa.tp hTa hCz1
   have hCwz:Chg w z1 (· =bt):=hCa.trans hCz1 (fun _ _ h=>h)
   have hkE:TreeOk z1 (fun b=>w.heap.size≤b∧(Value.slice A0 t.len c0).ownBlock≠some b) (.slice AE tE.len cE) tE:=TreeOk.under hOa (by omega) (by omega) hOE1.tree
   refine zz ?_
   refine z_bsE (encM [mE nm (.slice AE tE.len cE)]) (want_L rfl) (by decide) rfl (by decide) (by decide) (by kernel_rfl) (fun p1 pb hP=> ?_)
   refine z_push (h:=⟨nm,[],[]⟩) (k:=tE) (m:=mE nm (.slice AE tE.len cE)) (want_L rfl) (by decide) rfl rfl hOaz ⟨rfl,AtS.nil _,rfl,isSl_nil⟩ hkE (by have:=hCwz.size;omega) hP (by omega) (fun p2 q2 hP2 hPC=> ?_)
   have hPT:=hTz1.own hOaz (by omega) hPC
   have hPW:=Chg.own hCwz hOaz (Nat.le_refl _) hPC
   obtain ⟨pA,pc,hpv,_⟩:=hP2.form
   subst hpv
   refine zz ?_
   exact zk_midX (.slice pA _ pc,t.snoc ⟨nm,[],[]⟩ tE) ⟨hP2,AT.okc_snoc hok (hdN hml) ((show∀a∈lUl,a∈tBlk by decide) nm hmu) ((show∀a∈lUl,a≠ [] by decide) nm hmu) (kids_lst ((show∀a∈lUl,a∈([[111,108],[117,108]]:List (List UInt8)) by decide) nm hmu) hokE.2.2.1) hokE.1 hokE.2.1 (by have:=hokE.2.2.2;omega),by rw [AT.snoc_len,hlen],by rw [AT.snoc_size];omega,hPT,hPW⟩ ⟨rfl,rfl,rfl,rfl,rfl,trivial⟩
 by_cases hk99:k=9
 ·subst hk99
  refine zz ?_
  refine zCl rfl (hB1 (li:=lv+1) hTa (by omega)) ?_
  rintro _ y1 ⟨vK,kt,rfl,hK,hkok,hks,hT1',hX1,_⟩
  refine ⟨_,rfl,?_⟩
  obtain ⟨AK,cK,rfl,_⟩:=hK.form
  have hs1:=hX1.size
  have hO1:=hOa.tp hTa hX1
  have hC1':Chg w y1 (· =bt):=hCa.trans hX1 (fun _ _ h=>h)
  have hk1:TreeOk y1 (fun b=>w.heap.size≤b∧(Value.slice A0 t.len c0).ownBlock≠some b) (.slice AK kt.len cK) kt:=TreeOk.under hOa (by omega) (Nat.le_refl _) hK.tree
  refine z_buildE #[.string (bs nBq),nS,.string (bs []),nS,.slice AK kt.len cK] (want_L rfl) (by decide) rfl (by kernel_rfl) ?_
  refine zAl (fun y2 b9 hN2=> ?_)
  have hb92:Blk y2 b9 43 [.string ⟨#[]⟩,nS,.string ⟨#[]⟩,nS,nS]:=hN2.blk
  refine z_store (want_L rfl) rfl rfl rfl (by assumption) (by first|exact Nat.le_refl _|simp [Value.cells]) (by simp [Value.cells,Value.oneCell']) (fun y3 hU3=> ?_)
  have hb93:Blk y3 b9 43 [.string (bs nBq),nS,.string (bs []),nS,.slice AK kt.len cK]:=hU3.blk
  have hX3:Chg y1 y3 No:=hN2.chg.upd hU3 (hN2.ge (Chg.refl _ No))
  have hb9ge:y1.heap.size≤b9:=hN2.ge (Chg.refl _ No)
  have hT3:=hT1'.no hX3
  refine zz ?_
  refine zCl rfl (next_calls hT3 2 (by decide) (by decide) rfl) ?_
  rintro _ y4 ⟨⟨kc,hkc,rfl⟩,hT4,hX4⟩
  refine ⟨_,rfl,?_⟩
  have hb94:=keepT hT3 hX4 _ _ _ (by decide) hb93
  have hX14:Chg y1 y4 (· =bt):=(hX3.mono (S':=(· =bt)) (fun _ _ h=>h.elim)).trans hX4 (fun _ _ h=>h)
  by_cases hkc0:kc=0
  ·subst hkc0
   refine zz ?_
   refine z_buildE #[.string (bs [99,105,116,101]),.string (bs sCite)] (want_L rfl) (by decide) rfl (by kernel_rfl) ?_
   refine z_bsE (encA [([99,105,116,101],sCite)]) (want_L rfl) (by decide) rfl (by decide) (by decide) (by kernel_rfl) (fun y5 ba hA=> ?_)
   have hA5:AtS y5 (.slice (some ⟨ba,0,none⟩) 1 1) [([99,105,116,101],sCite)]:=RdS.new hA rfl (encA_one _)
   have hb95:=hb94.no hA.chg
   have hT5:=hT4.no hA.chg
   refine zfa rfl ?_
   refine z_store (want_L rfl) rfl rfl rfl (by assumption) (by first|exact Nat.le_refl _|simp [Value.cells]) (by simp [Value.cells,Value.oneCell']) (fun y6 hU6=> ?_)
   have hb96:Blk y6 b9 43 [.string (bs nBq),.slice (some ⟨ba,0,none⟩) 1 1,.string (bs []),nS,.slice AK kt.len cK]:=hU6.blk
   have hX16:Chg y1 y6 (· =bt):=(hX14.no hA.chg).trans hU6.chg (fun k hk he=>by omega)
   have hO6:=hO1.tp hT1' hX16
   have hk6':=hk1.tp hT1' hX16
   have hT6:Tp y6 B bt:=hT5.oth hU6.chg (fun he=>by have:=hT1'.lt;omega) (fun k _ hk=>by have:=hT1'.lt;omega)
   have hC6:Chg w y6 (· =bt):=hC1'.trans hX16 (fun _ _ h=>h)
   have hA6:AtS y6 (.slice (some ⟨ba,0,none⟩) 1 1) [([99,105,116,101],sCite)]:=RdS.chg hA5 hU6.chg (fun b cells hb he=>hb.ne hb95 (by decide) he)
   have hdQ:HdOk ⟨nBq,[([99,105,116,101],sCite)],[]⟩:=⟨by decide,by decide,by decide,by decide⟩
   refine zz ?_
   refine z_bsE (encM [⟨nBq,.slice (some ⟨ba,0,none⟩) 1 1,[],nS,.slice AK kt.len cK⟩]) (want_L rfl) (by decide) rfl (by decide) (by decide) (by kernel_rfl) (fun p1 pb hP=> ?_)
   refine z_push (h:=⟨nBq,[([99,105,116,101],sCite)],[]⟩) (k:=kt) (m:=⟨nBq,.slice (some ⟨ba,0,none⟩) 1 1,[],nS,.slice AK kt.len cK⟩) (want_L rfl) (by decide) rfl rfl hO6 ⟨rfl,hA6,rfl,isSl_nil⟩ hk6' (by have:=hC6.size;omega) hP (by omega) (fun p2 q2 hP2 hPC=> ?_)
   have hPT:=hT6.own hO6 (by omega) hPC
   have hPW:=Chg.own hC6 hO6 (Nat.le_refl _) hPC
   obtain ⟨pA,pc,hpv,_⟩:=hP2.form
   subst hpv
   refine zz ?_
   exact zk_midX (.slice pA _ pc,t.snoc ⟨nBq,[([99,105,116,101],sCite)],[]⟩ kt) ⟨hP2,AT.okc_snoc hok hdQ (by decide:nBq∈tBlk) (by decide:nBq≠ []) (kids_bq (by decide) hkok.2.2.1) hkok.1 hkok.2.1 (by have:=hkok.2.2.2;omega),by rw [AT.snoc_len,hlen],by rw [AT.snoc_size];omega,hPT,hPW⟩ ⟨rfl,rfl,rfl,rfl,rfl,trivial⟩
  ·have hO4:=hO1.tp hT1' hX14
   have hk4':=hk1.tp hT1' hX14
   have hC4:Chg w y4 (· =bt):=hC1'.trans hX14 (fun _ _ h=>h)
   refine zz ?_
   refine z_bsE (encM [mE nBq (.slice AK kt.len cK)]) (want_L rfl) (by decide) rfl (by decide) (by decide) (by kernel_rfl) (fun p1 pb hP=> ?_)
   refine z_push (h:=⟨nBq,[],[]⟩) (k:=kt) (m:=mE nBq (.slice AK kt.len cK)) (want_L rfl) (by decide) rfl rfl hO4 ⟨rfl,AtS.nil _,rfl,isSl_nil⟩ hk4' (by have:=hC4.size;omega) hP (by omega) (fun p2 q2 hP2 hPC=> ?_)
   have hPT:=hT4.own hO4 (by omega) hPC
   have hPW:=Chg.own hC4 hO4 (Nat.le_refl _) hPC
   obtain ⟨pA,pc,hpv,_⟩:=hP2.form
   subst hpv
   refine zz ?_
   exact zk_midX (.slice pA _ pc,t.snoc ⟨nBq,[],[]⟩ kt) ⟨hP2,AT.okc_snoc hok (hdN (by decide)) (by decide:nBq∈tBlk) (by decide:nBq≠ []) (kids_bq (by decide) hkok.2.2.1) hkok.1 hkok.2.1 (by have:=hkok.2.2.2;omega),by rw [AT.snoc_len,hlen],by rw [AT.snoc_size];omega,hPT,hPW⟩ ⟨rfl,rfl,rfl,rfl,rfl,trivial⟩
 ·refine zz ?_
  refine zCl rfl (table_calls (lv:=lv) (by omega) hI2 (li:=lv) hTa rfl (by omega)) ?_
  rintro _ y1 ⟨V,la,K,kt,rfl,hAl,hl3,hla,hK,hkok,hks,hT1',hX1⟩
  refine ⟨_,rfl,?_⟩
  obtain ⟨AK,cK,rfl,_⟩:=hK.form
  obtain ⟨VA,vc,rfl,_⟩:=hAl.form
  have hO1:=hOa.tp hTa hX1
  have hC1':Chg w y1 (· =bt):=hCa.trans hX1 (fun _ _ h=>h)
  have hk1:TreeOk y1 (fun b=>w.heap.size≤b∧(Value.slice A0 t.len c0).ownBlock≠some b) (.slice AK kt.len cK) kt:=TreeOk.under hOa (by omega) (Nat.le_refl _) hK
  have hdT:HdOk ⟨nTable,la,[]⟩:=⟨(by decide:nTable∈lNm),hl3,hla,(by decide:([]:List UInt8)∈lTxs)⟩
  refine z_bsE (encM [⟨nTable,.slice VA la.length vc,[],nS,.slice AK kt.len cK⟩]) (want_L rfl) (by decide) rfl (by decide) (by decide) (by kernel_rfl) (fun p1 pb hP=> ?_)
  refine z_push (h:=⟨nTable,la,[]⟩) (k:=kt) (m:=⟨nTable,.slice VA la.length vc,[],nS,.slice AK kt.len cK⟩) (want_L rfl) (by decide) rfl rfl hO1 ⟨rfl,hAl,rfl,isSl_nil⟩ hk1 (by have:=hC1'.size;omega) hP (by omega) (fun p2 q2 hP2 hPC=> ?_)
  have hPT:=hT1'.own hO1 (by omega) hPC
  have hPW:=Chg.own hC1' hO1 (Nat.le_refl _) hPC
  obtain ⟨pA,pc,hpv,_⟩:=hP2.form
  subst hpv
  refine zz ?_
  exact zk_midX (.slice pA _ pc,t.snoc ⟨nTable,la,[]⟩ kt) ⟨hP2,AT.okc_snoc hok hdT (by decide:nTable∈tBlk) (by decide:nTable≠ []) (kids_tab (by decide:nTable∈([[116,97,98,108,101]]:List (List UInt8))) hkok.2.2.1) hkok.1 hkok.2.1 (by have:=hkok.2.2.2;omega),by rw [AT.snoc_len,hlen],by rw [AT.snoc_size];omega,hPT,hPW⟩ ⟨rfl,rfl,rfl,rfl,rfl,trivial⟩
theorem blocks_calls: ∀(d lv:Nat),4≤lv+d→d≤4→lv+3*d≤40→BlkC lv d
 |0,lv,h,_,h2=>blocks_body (by omega) (by decide) (fun h3=>by omega)
 |d+1,lv,h,h1,h2=>by
  have hz:blZ (d+1)≤1000000000:=by
   rcases (by omega:d=0∨d=1∨d=2∨d=3) with rfl|rfl|rfl|rfl<;>decide
  refine blocks_body (by omega) hz (fun h3=>⟨d,rfl,blocks_calls d (lv+1) (by omega) (by omega) (by omega),?_,?_⟩)
  ·exact item_calls (by omega) (blocks_calls d (lv+1+1) (by omega) (by omega) (by omega))
  ·exact item_calls (by omega) (blocks_calls d (lv+2+1) (by omega) (by omega) (by omega))
theorem made_calls {w:World} {a:Option Addr} {len cap:Nat} {zs:List Int} (h:IsRow .i64 w a len cap zs):Calls Tryz.prog 7 [.slice a len cap].toArray w fun e w'=> ∃v t,e= .returned v∧TreeAt true w' v t∧t.okc tBlk 26∧t.wt≤100000000000∧0<t.len∧Chg w w' No:=by
 refine zCz 7 Tryz.func7 ?_
 refine zz ?_
 refine z_buildE #[.slice a len cap,.int .i64 0] (want_L rfl) (by decide) rfl (by kernel_rfl) ?_
 refine zBx rfl (fun w1 b1 hN1=> ?_)
 have hb1:Blk w1 b1 36 [.slice a len cap,.int .i64 ((0:Nat):Int)]:=hN1.blk
 have hT:Tp w1 w.heap.size b1:=⟨⟨w,a,len,cap,zs,0,Nat.le_refl _,hb1,h,hN1.chg.mono (fun _ _ h=>h.elim),Nat.zero_le _⟩,Nat.le_of_eq hN1.at_.symm⟩
 refine zCl rfl (blocks_calls 4 0 (by decide) (by decide) (by decide) (li:=0) hT rfl) ?_
 rintro _ w2 ⟨vo,t,rfl,hO,hok,hsz,hT2,hC,hpos⟩
 refine ⟨_,rfl,?_⟩
 have h4:blZ 4=114244000:=by decide
 have hw:=t.ok_wt hok.1
 refine zz ?_
 exact zk_ret1 (.inr rfl) rfl rfl ⟨_,t,rfl,hO.tree.at',hok,by omega,hpos,hN1.chg.trans hC (fun k hk he=>by have:=hN1.at_;omega)⟩
theorem AT.app_wt: ∀t q:AT,(t.app q).wt=t.wt+q.wt
 | .nil,q=>by simp [AT.app,AT.wt]
 | .cons x k r,q=>by have:=AT.app_wt r q;simp only [AT.app,AT.wt,this];omega
theorem IsRow.no {k:IntKind} {w w':World} {a:Option Addr} {len cap:Nat} {zs:List Int} (h:IsRow k w a len cap zs) (hc:Chg w w' No):IsRow k w' a len cap zs:=by
 rcases h with h|⟨x,h1,h2,h3,h4,h5,h6⟩
 ·exact .inl h
 ·exact .inr ⟨x,h1,h2,h3,h4,fun i hi=>cell_keep hc (h5 i hi),h6⟩
end Go.Proofs.YtbcmiijollpgeaaGreat.T
namespace Go.Z
open Go
section
variable {P : Program} {n : Nat} {e : Env} {w : World} {Q : Exit → Act → World → Prop} {ops : Array Oper} {rest : List Oper}
variable {d : Tmp} {ty : TypeId} {pos : String} {aft : Array Edge} {g : Option (Nat × Bool)} {x y : Operand} {xt yt : TypeId}
theorem z_cutW {l:List UInt8} {lo hi:Option Operand} {a b:Int} {t:TypeId} [hu:Und P t .string] (hw:Want ops e g) (hdn:d<n) (hx:ev e x=some (.string (bs l))) (hl:optI lo e 0=some a) (hh:optI hi e l.length=some b) (h0:0≤a) (h1:a≤b) (h2:b≤l.length)
  (h: ∀r:List UInt8,(r.length:Int)=b - a→ZL P n ops rest ((d,.string (bs r))::e) w Q):ZL P n ops (⟨some d,.slice t x lo hi none,ty,pos,aft,g⟩::rest) e w Q:=
 z_cutL hw hdn hx hl hh h0 h1 h2 (h _ (by rw [List.length_take,List.length_drop];omega))
class Ln (l:List UInt8) (k:outParam Nat):Prop where
 eq:l.length=k
instance (priority:=low) lnAny (l:List UInt8):Ln l l.length:=⟨rfl⟩
instance lnNil:Ln [] 0:=⟨rfl⟩
instance lnCons (c:UInt8) (l:List UInt8) (k:Nat) [h:Ln l k]:Ln (c::l) (k+1):=⟨by rw [List.length_cons,h.eq]⟩
theorem z_catW {l r:List UInt8} {i j:Nat} [hi:Ln l i] [hj:Ln r j] (hw:Want ops e g) (hdn:d<n) (hx:ev e x=some (.string (bs l))) (hy:ev e y=some (.string (bs r))) (hsz:(i:Int)+j≤9223372036854775807)
  (h: ∀s:List UInt8,s.length=i+j→ZL P n ops rest ((d,.string (bs s))::e) w Q):ZL P n ops (⟨some d,.binOp .add xt x y yt,ty,pos,aft,g⟩::rest) e w Q:=
 z_catL hw hdn hx hy (by rw [hi.eq,hj.eq];exact hsz) (h _ (by rw [List.length_append,hi.eq,hj.eq]))
theorem byte_lt (l:List UInt8) (j:Nat):(l.getD j 0).toNat<256:=(l.getD j 0).toNat_lt
theorem z_idxW {l:List UInt8} {k:IntKind} {i:Int} {t:TypeId} [hu:Und P t .string] (hw:Want ops e g) (hdn:d<n) (hx:ev e x=some (.string (bs l))) (hy:ev e y=some (.int k i)) (h0:0≤i) (h1:i<l.length)
  (h: ∀c:Nat,c<256→ZL P n ops rest ((d,.int .u8 c)::e) w Q):ZL P n ops (⟨some d,.index t x y,ty,pos,aft,g⟩::rest) e w Q:=
 z_idxL hw hdn hx hy h0 h1 (h _ (byte_lt l _))
theorem wrap_u8' (a:Int):0≤IntKind.u8.wrap a∧IntKind.u8.wrap a<256:=by
 simp only [IntKind.wrap,IntKind.bits,IntKind.signed];simp;omega
theorem z_subW {a b:Int} (hw:Want ops e g) (hdn:d<n) (hx:ev e x=some (.int .u8 a)) (hy:ev e y=some (.int .u8 b))
  (h: ∀c:Nat,c<256→ZL P n ops rest ((d,.int .u8 c)::e) w Q):ZL P n ops (⟨some d,.binOp .sub xt x y yt,ty,pos,aft,g⟩::rest) e w Q:=by
 obtain ⟨h0,h1⟩:=wrap_u8' (a - b)
 obtain ⟨c,hc⟩:=Int.eq_ofNat_of_zero_le h0
 exact z_arith (.inr (.inl ⟨rfl,hc.symm⟩)) hw hdn hx hy (h c (by omega))
theorem z_addW {a b:Int} (hw:Want ops e g) (hdn:d<n) (hx:ev e x=some (.int .u8 a)) (hy:ev e y=some (.int .u8 b))
  (h: ∀c:Nat,c<256→ZL P n ops rest ((d,.int .u8 c)::e) w Q):ZL P n ops (⟨some d,.binOp .add xt x y yt,ty,pos,aft,g⟩::rest) e w Q:=by
 obtain ⟨h0,h1⟩:=wrap_u8' (a+b)
 obtain ⟨c,hc⟩:=Int.eq_ofNat_of_zero_le h0
 exact z_arith (.inl ⟨rfl,hc.symm⟩) hw hdn hx hy (h c (by omega))
theorem z_add8 {a b:Int} (hw:Want ops e g) (hdn:d<n) (hx:ev e x=some (.int .u8 a)) (hy:ev e y=some (.int .u8 b)) (h0:0≤a+b) (h1:a+b≤255)
  (h:ZL P n ops rest ((d,.int .u8 (a+b))::e) w Q):ZL P n ops (⟨some d,.binOp .add xt x y yt,ty,pos,aft,g⟩::rest) e w Q:=
 z_arith (.inl ⟨rfl,(wrap_u8 h0 h1).symm⟩) hw hdn hx hy h
theorem r_min {x y:Operand} {k:IntKind} {a b c:Int} {ats:Array TypeId} (hx:ev e x=some (.int k a)) (hy:ev e y=some (.int k b)) (hc:c=if b<a then b else a):Rd P n e w ⟨some d,.call {callee:= .builtin .min,args:= #[x,y],argTypes:=ats},ty,pos,aft,g⟩ (.int k c):=fun A hA=>by
 subst hc
 simp [execOp,resolve,invoke,builtin,hA.ev hx,hA.ev hy,Builtin.min_,Builtin.min2]
theorem z_minW {x y:Operand} {k:IntKind} {a b:Int} {ats:Array TypeId} (hw:Want ops e g) (hdn:d<n) (hx:ev e x=some (.int k a)) (hy:ev e y=some (.int k b))
  (h: ∀c:Int,c≤a→c≤b→(c=a∨c=b)→ZL P n ops rest ((d,.int k c)::e) w Q):ZL P n ops (⟨some d,.call {callee:= .builtin .min,args:= #[x,y],argTypes:=ats},ty,pos,aft,g⟩::rest) e w Q:=
 zl_run hw rfl hdn (r_min hx hy rfl) (h _ (by split<;>omega) (by split<;>omega) (by split<;>simp))
theorem z_maxW {x y:Operand} {k:IntKind} {a b:Int} {ats:Array TypeId} (hw:Want ops e g) (hdn:d<n) (hx:ev e x=some (.int k a)) (hy:ev e y=some (.int k b))
  (h: ∀c:Int,a≤c→b≤c→(c=a∨c=b)→ZL P n ops rest ((d,.int k c)::e) w Q):ZL P n ops (⟨some d,.call {callee:= .builtin .max,args:= #[x,y],argTypes:=ats},ty,pos,aft,g⟩::rest) e w Q:=
 zl_run hw rfl hdn (r_max hx hy rfl) (h _ (by split<;>omega) (by split<;>omega) (by split<;>simp))
theorem z_shr4 {c:Nat} {yt':TypeId} (hc:c<256) (hw:Want ops e g) (hdn:d<n) (hx:ev e x=some (.int .u8 c)) (hy:ev e y=some (.int .u64 4))
  (h: ∀c:Nat,c<16→ZL P n ops rest ((d,.int .u8 c)::e) w Q):ZL P n ops (⟨some d,.binOp .shr xt x y yt',ty,pos,aft,g⟩::rest) e w Q:=
 zl_run (v:= .int .u8 ((c / 16:Nat):Int)) hw rfl hdn (fun A hA=>by
  have e1:Int.fdiv (c:Int) (2 ^ 4)=((c / 16:Nat):Int):=by rw [Int.fdiv_eq_ediv_of_nonneg _ (by decide)];omega
  have e2:min (Int.toNat 4) (IntKind.bits .u8)=4:=by decide
  simp only [execOp,hA.ev hx,hA.ev hy,Sem.run_bind,run_int_eqGuard,Result.andThen_ok,binOp,Op.shift,e2,e1]
  rfl) (h _ (by omega))
theorem z_and15 {c:Nat} {yt':TypeId} (hw:Want ops e g) (hdn:d<n) (hx:ev e x=some (.int .u8 c)) (hy:ev e y=some (.int .u8 15))
  (h: ∀c:Nat,c<16→ZL P n ops rest ((d,.int .u8 c)::e) w Q):ZL P n ops (⟨some d,.binOp .and xt x y yt',ty,pos,aft,g⟩::rest) e w Q:=by
 obtain ⟨m,hm⟩: ∃m,m=(BitVec.ofInt 8 (c:Int) &&& BitVec.ofInt 8 15).toNat:=⟨_,rfl⟩
 have hm16:m<16:=by
  have h1:(BitVec.ofInt 8 15).toNat=15:=by decide
  rw [hm,BitVec.toNat_and,h1]
  exact Nat.lt_of_le_of_lt Nat.and_le_right (by decide)
 refine zl_run (v:= .int .u8 (m:Int)) hw rfl hdn (fun A hA=> ?_) (h _ hm16)
 have e1:IntKind.u8.wrap (m:Int)=(m:Int):=wrap_u8 (by omega) (by omega)
 have e2:IntKind.u8.wrap (((BitVec.ofInt 8 (c:Int) &&& BitVec.ofInt 8 15).toNat:Nat):Int)=(m:Int):=by rw [←hm];exact e1
 simp only [execOp,hA.ev hx,hA.ev hy,Sem.run_bind,run_int_eqGuard,Result.andThen_ok,binOp,Op.intBits]
 rw [if_neg (by simp)]
 show (Sem.run P (pure (Value.int .u8 (IntKind.u8.wrap (((BitVec.ofInt 8 (c:Int) &&& BitVec.ofInt 8 15).toNat:Nat):Int)))) w).andThen _=_
 rw [e2];rfl
class PureOp (o:Op):Prop where
 yes:True
instance pureMove (x:Operand):PureOp (.move x):=⟨trivial⟩
instance pureAssign (x:Operand):PureOp (.assign x):=⟨trivial⟩
instance purePick (x y z:Operand):PureOp (.pick x y z):=⟨trivial⟩
instance pureNot (t:TypeId) (x:Operand):PureOp (.unOp .not t x):=⟨trivial⟩
theorem a_pure {l:List Oper} {d':Option Tmp} {op:Op} {v:Value} [hp:PureOp op] (h:ZL P n l.toArray rest ((d,v)::e) w Q) (hs:stepL n l e ⟨d',op,ty,pos,aft,g⟩=some (d,v):=by exact rfl):ZL P n l.toArray (⟨d',op,ty,pos,aft,g⟩::rest) e w Q:=zP hs h
theorem a_skip {l:List Oper} {d':Option Tmp} {op:Op} {gd:Nat×Bool} (h:ZL P n l.toArray rest ((d,undef)::e) w Q) (hs:skipL n l e ⟨d',op,ty,pos,aft,some gd⟩=some d:=by exact rfl):ZL P n l.toArray (⟨d',op,ty,pos,aft,some gd⟩::rest) e w Q:=zJ hs h
theorem a_fa {s f off b o:Nat} [hF:FA P s f off] (hx:ev e x=some (.pointer (some ⟨b,o,none⟩))) (h:ZL P n ops rest ((d,.pointer (some ⟨b,o+off,none⟩))::e) w Q) (hw:Want ops e g:=by first|exact want_none|exact want_L rfl) (hdn:d<n:=by decide):ZL P n ops (⟨some d,.fieldAddr s x f,ty,pos,aft,g⟩::rest) e w Q:=z_fa hw hdn hx h
theorem a_load1 {t:TypeId} {ad:Addr} {v:Value} [hA:IsA P t false] (hx:ev e x=some (.pointer (some ad))) (h:ZL P n ops rest ((d,v)::e) w Q) (hw:Want ops e g:=by first|exact want_none|exact want_L rfl) (hdn:d<n:=by decide) (hc:w.cell? ad=some v:=by assumption):ZL P n ops (⟨some d,.load t x,ty,pos,aft,g⟩::rest) e w Q:=z_load1 hw hdn hx hc h
theorem a_loadB {t:TypeId} {b o:Nat} {bt:TypeId} {cs:List Value} {v:Value} [hA:IsA P t false] (hx:ev e x=some (.pointer (some ⟨b,o,none⟩))) (h:ZL P n ops rest ((d,v)::e) w Q) (hw:Want ops e g:=by first|exact want_none|exact want_L rfl) (hdn:d<n:=by decide) (hb:Blk w b bt cs:=by assumption) (hv:cs[o]? =some v:=by exact rfl):ZL P n ops (⟨some d,.load t x,ty,pos,aft,g⟩::rest) e w Q:=z_loadB hw hdn hx hb hv h
theorem a_loadAB {t:TypeId} {b:Nat} {bt:TypeId} {cs:List Value} {sz k:Nat} {z:Value} [hA:IsA P t true] [hz:Inf P t sz k z] (hx:ev e x=some (.pointer (some ⟨b,0,none⟩))) (h:ZL P n ops rest ((d,.agg cs.toArray)::e) w Q) (hw:Want ops e g:=by first|exact want_none|exact want_L rfl) (hdn:d<n:=by decide) (hb:Blk w b bt cs:=by assumption) (hl:cs.length=sz:=by exact rfl):ZL P n ops (⟨some d,.load t x,ty,pos,aft,g⟩::rest) e w Q:=z_loadAB hw hdn hx hb hl h
theorem a_len {A:Option Addr} {m c:Nat} {t el:TypeId} [hu:Und P t (.slice el)] (hx:ev e x=some (.slice A m c)) (h:ZL P n ops rest ((d,.int .i64 m)::e) w Q) (hw:Want ops e g:=by first|exact want_none|exact want_L rfl) (hdn:d<n:=by decide):ZL P n ops (⟨some d,.call {callee:= .builtin .len,args:= #[x],argTypes:= #[t]},ty,pos,aft,g⟩::rest) e w Q:=z_len hw hdn hx h
theorem a_lenL {l:List UInt8} {t:TypeId} [hu:Und P t .string] (hx:ev e x=some (.string (bs l))) (h:ZL P n ops rest ((d,.int .i64 l.length)::e) w Q) (hw:Want ops e g:=by first|exact want_none|exact want_L rfl) (hdn:d<n:=by decide):ZL P n ops (⟨some d,.call {callee:= .builtin .len,args:= #[x],argTypes:= #[t]},ty,pos,aft,g⟩::rest) e w Q:=z_lenL hw hdn hx h
theorem a_ia {b o m c s k:Nat} {ik:IntKind} {i:Int} {t el:TypeId} {z:Value} [hu:Und P t (.slice el)] [hz:Inf P el s k z] (hx:ev e x=some (.slice (some ⟨b,o,none⟩) m c)) (hy:ev e y=some (.int ik i)) (h:ZL P n ops rest ((d,.pointer (some ⟨b,o+i.toNat*s,none⟩))::e) w Q) (hw:Want ops e g:=by first|exact want_none|exact want_L rfl) (hdn:d<n:=by decide) (h0:0≤i:=by omega) (h1:i<m:=by omega):ZL P n ops (⟨some d,.indexAddr t x y,ty,pos,aft,g⟩::rest) e w Q:=z_ia hw hdn hx hy h0 h1 h
theorem a_add {a b:Int} (hx:ev e x=some (.int .i64 a)) (hy:ev e y=some (.int .i64 b)) (h:ZL P n ops rest ((d,.int .i64 (a+b))::e) w Q) (hw:Want ops e g:=by first|exact want_none|exact want_L rfl) (hdn:d<n:=by decide) (h0: -9223372036854775808≤a+b:=by omega) (h1:a+b≤9223372036854775807:=by omega):ZL P n ops (⟨some d,.binOp .add xt x y yt,ty,pos,aft,g⟩::rest) e w Q:=z_add hw hdn hx hy h0 h1 h
theorem a_sub {a b:Int} (hx:ev e x=some (.int .i64 a)) (hy:ev e y=some (.int .i64 b)) (h:ZL P n ops rest ((d,.int .i64 (a - b))::e) w Q) (hw:Want ops e g:=by first|exact want_none|exact want_L rfl) (hdn:d<n:=by decide) (h0: -9223372036854775808≤a - b:=by omega) (h1:a - b≤9223372036854775807:=by omega):ZL P n ops (⟨some d,.binOp .sub xt x y yt,ty,pos,aft,g⟩::rest) e w Q:=z_sub hw hdn hx hy h0 h1 h
theorem a_mul {a b:Int} (hx:ev e x=some (.int .i64 a)) (hy:ev e y=some (.int .i64 b)) (h:ZL P n ops rest ((d,.int .i64 (a*b))::e) w Q) (hw:Want ops e g:=by first|exact want_none|exact want_L rfl) (hdn:d<n:=by decide) (h0: -9223372036854775808≤a*b:=by omega) (h1:a*b≤9223372036854775807:=by omega):ZL P n ops (⟨some d,.binOp .mul xt x y yt,ty,pos,aft,g⟩::rest) e w Q:=z_mul hw hdn hx hy h0 h1 h
theorem a_add8 {a b:Int} (hx:ev e x=some (.int .u8 a)) (hy:ev e y=some (.int .u8 b)) (h:ZL P n ops rest ((d,.int .u8 (a+b))::e) w Q) (hw:Want ops e g:=by first|exact want_none|exact want_L rfl) (hdn:d<n:=by decide) (h0:0≤a+b:=by omega) (h1:a+b≤255:=by omega):ZL P n ops (⟨some d,.binOp .add xt x y yt,ty,pos,aft,g⟩::rest) e w Q:=z_add8 hw hdn hx hy h0 h1 h
theorem a_subW {a b:Int} (hx:ev e x=some (.int .u8 a)) (hy:ev e y=some (.int .u8 b)) (h: ∀c:Nat,c<256→ZL P n ops rest ((d,.int .u8 c)::e) w Q) (hw:Want ops e g:=by first|exact want_none|exact want_L rfl) (hdn:d<n:=by decide):ZL P n ops (⟨some d,.binOp .sub xt x y yt,ty,pos,aft,g⟩::rest) e w Q:=z_subW hw hdn hx hy h
theorem a_catW {l r:List UInt8} {i j:Nat} (hx:ev e x=some (.string (bs l))) (hy:ev e y=some (.string (bs r))) (h: ∀s:List UInt8,s.length=i+j→ZL P n ops rest ((d,.string (bs s))::e) w Q) (hw:Want ops e g:=by first|exact want_none|exact want_L rfl) (hdn:d<n:=by decide) (hi:Ln l i:=by infer_instance) (hj:Ln r j:=by infer_instance) (hsz:(i:Int)+j≤9223372036854775807:=by first|omega|(simp only [List.length_cons,List.length_nil];omega)):ZL P n ops (⟨some d,.binOp .add xt x y yt,ty,pos,aft,g⟩::rest) e w Q:=z_catW hw hdn hx hy hsz h
theorem a_cutW {l:List UInt8} {lo hi:Option Operand} {a b:Int} {t:TypeId} [hu:Und P t .string] (hx:ev e x=some (.string (bs l))) (hl:optI lo e 0=some a) (hh:optI hi e l.length=some b) (h: ∀r:List UInt8,(r.length:Int)=b - a→ZL P n ops rest ((d,.string (bs r))::e) w Q) (hw:Want ops e g:=by first|exact want_none|exact want_L rfl) (hdn:d<n:=by decide) (h0:0≤a:=by omega) (h1:a≤b:=by first|omega|(simp only [List.length_cons,List.length_nil];omega)) (h2:b≤l.length:=by first|omega|(simp only [List.length_cons,List.length_nil];omega)):ZL P n ops (⟨some d,.slice t x lo hi none,ty,pos,aft,g⟩::rest) e w Q:=z_cutW hw hdn hx hl hh h0 h1 h2 h
theorem a_idxW {l:List UInt8} {k:IntKind} {i:Int} {t:TypeId} [hu:Und P t .string] (hx:ev e x=some (.string (bs l))) (hy:ev e y=some (.int k i)) (h: ∀c:Nat,c<256→ZL P n ops rest ((d,.int .u8 c)::e) w Q) (hw:Want ops e g:=by first|exact want_none|exact want_L rfl) (hdn:d<n:=by decide) (h0:0≤i:=by omega) (h1:i<l.length:=by omega):ZL P n ops (⟨some d,.index t x y,ty,pos,aft,g⟩::rest) e w Q:=z_idxW hw hdn hx hy h0 h1 h
theorem a_conv {src dst:TypeId} {k:IntKind} {i:Int} {u:TypeDesc} [hs:Und P src u] [hd:Und P dst (.int .i64)] (hx:ev e x=some (.int k i)) (h:ZL P n ops rest ((d,.int .i64 i)::e) w Q) (hw:Want ops e g:=by first|exact want_none|exact want_L rfl) (hdn:d<n:=by decide) (h0: -9223372036854775808≤i:=by omega) (h1:i≤9223372036854775807:=by omega):ZL P n ops (⟨some d,.convert src dst x,ty,pos,aft,g⟩::rest) e w Q:=z_convI hw hdn hx (wrap_i64 h0 h1) h
theorem a_min {k:IntKind} {a b:Int} {ats:Array TypeId} (hx:ev e x=some (.int k a)) (hy:ev e y=some (.int k b)) (h: ∀c:Int,c≤a→c≤b→(c=a∨c=b)→ZL P n ops rest ((d,.int k c)::e) w Q) (hw:Want ops e g:=by first|exact want_none|exact want_L rfl) (hdn:d<n:=by decide):ZL P n ops (⟨some d,.call {callee:= .builtin .min,args:= #[x,y],argTypes:=ats},ty,pos,aft,g⟩::rest) e w Q:=z_minW hw hdn hx hy h
theorem a_max {k:IntKind} {a b:Int} {ats:Array TypeId} (hx:ev e x=some (.int k a)) (hy:ev e y=some (.int k b)) (h: ∀c:Int,a≤c→b≤c→(c=a∨c=b)→ZL P n ops rest ((d,.int k c)::e) w Q) (hw:Want ops e g:=by first|exact want_none|exact want_L rfl) (hdn:d<n:=by decide):ZL P n ops (⟨some d,.call {callee:= .builtin .max,args:= #[x,y],argTypes:=ats},ty,pos,aft,g⟩::rest) e w Q:=z_maxW hw hdn hx hy h
theorem a_shr {c:Nat} (hx:ev e x=some (.int .u8 c)) (hy:ev e y=some (.int .u64 4)) (h: ∀c:Nat,c<16→ZL P n ops rest ((d,.int .u8 c)::e) w Q) (hw:Want ops e g:=by first|exact want_none|exact want_L rfl) (hdn:d<n:=by decide) (hc:c<256:=by omega):ZL P n ops (⟨some d,.binOp .shr xt x y yt,ty,pos,aft,g⟩::rest) e w Q:=z_shr4 hc hw hdn hx hy h
theorem a_and {c:Nat} (hx:ev e x=some (.int .u8 c)) (hy:ev e y=some (.int .u8 15)) (h: ∀c:Nat,c<16→ZL P n ops rest ((d,.int .u8 c)::e) w Q) (hw:Want ops e g:=by first|exact want_none|exact want_L rfl) (hdn:d<n:=by decide):ZL P n ops (⟨some d,.binOp .and xt x y yt,ty,pos,aft,g⟩::rest) e w Q:=z_and15 hw hdn hx hy h
theorem a_cmpT {op:BinOp} {k:IntKind} {a b:Int} {p:Prop} (hx:ev e x=some (.int k a)) (hy:ev e y=some (.int k b)) (hop:cmpP op a b=some p) (h:ZL P n ops rest ((d,.bool true)::e) w Q) (hw:Want ops e g:=by first|exact want_none|exact want_L rfl) (hdn:d<n:=by decide) (hp:p:=by omega):ZL P n ops (⟨some d,.binOp op xt x y yt,ty,pos,aft,g⟩::rest) e w Q:=z_cmpB hw hdn hx hy hop (iff_of_true rfl hp) h
theorem a_cmpF {op:BinOp} {k:IntKind} {a b:Int} {p:Prop} (hx:ev e x=some (.int k a)) (hy:ev e y=some (.int k b)) (hop:cmpP op a b=some p) (h:ZL P n ops rest ((d,.bool false)::e) w Q) (hw:Want ops e g:=by first|exact want_none|exact want_L rfl) (hdn:d<n:=by decide) (hp: ¬p:=by omega):ZL P n ops (⟨some d,.binOp op xt x y yt,ty,pos,aft,g⟩::rest) e w Q:=z_cmpB hw hdn hx hy hop (iff_of_false Bool.false_ne_true hp) h
theorem a_cmp {op:BinOp} {k:IntKind} {a b:Int} {p:Prop} (hx:ev e x=some (.int k a)) (hy:ev e y=some (.int k b)) (hop:cmpP op a b=some p) (ht:p→ZL P n ops rest ((d,.bool true)::e) w Q) (hf: ¬p→ZL P n ops rest ((d,.bool false)::e) w Q) (hw:Want ops e g:=by first|exact want_none|exact want_L rfl) (hdn:d<n:=by decide):ZL P n ops (⟨some d,.binOp op xt x y yt,ty,pos,aft,g⟩::rest) e w Q:=z_cmp hw hdn hx hy hop ht hf
theorem a_eq {l r:List UInt8} (hx:ev e x=some (.string (bs l))) (hy:ev e y=some (.string (bs r))) (ht:l=r→ZL P n ops rest ((d,.bool true)::e) w Q) (hf:l≠r→ZL P n ops rest ((d,.bool false)::e) w Q) (hw:Want ops e g:=by first|exact want_none|exact want_L rfl) (hdn:d<n:=by decide):ZL P n ops (⟨some d,.binOp .eql xt x y yt,ty,pos,aft,g⟩::rest) e w Q:=z_eqL hw hdn hx hy ht hf
theorem a_ne {l r:List UInt8} (hx:ev e x=some (.string (bs l))) (hy:ev e y=some (.string (bs r))) (ht:l≠r→ZL P n ops rest ((d,.bool true)::e) w Q) (hf:l=r→ZL P n ops rest ((d,.bool false)::e) w Q) (hw:Want ops e g:=by first|exact want_none|exact want_L rfl) (hdn:d<n:=by decide):ZL P n ops (⟨some d,.binOp .neq xt x y yt,ty,pos,aft,g⟩::rest) e w Q:=z_neL hw hdn hx hy ht hf
end
open Go
theorem za {X Y:Prop} (q:Y) (h:Hq Y→X:=by intro q; (first|(show ZL _ _ _ _ _ _ _;first|(show ZL _ _ _ [] _ _ _;refine zN ?_)|refine a_pure ?_|refine a_skip ?_|(show ZL _ _ _ (⟨_,(.load _ _),_,_,_,_⟩::_) _ _ _;first|refine a_loadB rfl ?_|refine a_load1 rfl ?_|refine a_loadAB rfl ?_)|(show ZL _ _ _ (⟨_,(.call _),_,_,_,_⟩::_) _ _ _;first|refine a_len rfl ?_|refine a_lenL rfl ?_)|(show ZL _ _ _ (⟨_,(.binOp .add _ _ _ _),_,_,_,_⟩::_) _ _ _;first|refine a_add rfl rfl ?_|refine a_add8 rfl rfl ?_)|(show ZL _ _ _ (⟨_,(.binOp .sub _ _ _ _),_,_,_,_⟩::_) _ _ _;first|refine a_sub rfl rfl ?_)|(show ZL _ _ _ (⟨_,(.fieldAddr _ _ _),_,_,_,_⟩::_) _ _ _;refine a_fa rfl ?_)|(show ZL _ _ _ (⟨_,(.indexAddr _ _ _),_,_,_,_⟩::_) _ _ _;refine a_ia rfl rfl ?_)|(show ZL _ _ _ (⟨_,(.convert _ _ _),_,_,_,_⟩::_) _ _ _;refine a_conv rfl ?_)|(show ZL _ _ _ (⟨_,(.binOp _ _ _ _ _),_,_,_,_⟩::_) _ _ _;first|refine a_cmpT rfl rfl rfl ?_|refine a_cmpF rfl rfl rfl ?_|refine a_mul rfl rfl ?_))|(show ZC _ _ _ _ _ _;first|refine zS ?_|refine zR ?_|refine zB ?_|refine zA ?_|refine zL ?_|refine zE ?_|refine zT rfl ?_|refine zF rfl ?_)|(show ZK _ _ _ _ _;first|refine zK ?_|refine zX ?_|refine zQ ?_|refine zW ?_|refine zM ?_|refine zY ?_|refine zY' rfl ?_)); (repeat (first|(show ZL _ _ _ _ _ _ _;first|(show ZL _ _ _ [] _ _ _;refine zN ?_)|refine a_pure ?_|refine a_skip ?_|(show ZL _ _ _ (⟨_,(.load _ _),_,_,_,_⟩::_) _ _ _;first|refine a_loadB rfl ?_|refine a_load1 rfl ?_|refine a_loadAB rfl ?_)|(show ZL _ _ _ (⟨_,(.call _),_,_,_,_⟩::_) _ _ _;first|refine a_len rfl ?_|refine a_lenL rfl ?_)|(show ZL _ _ _ (⟨_,(.binOp .add _ _ _ _),_,_,_,_⟩::_) _ _ _;first|refine a_add rfl rfl ?_|refine a_add8 rfl rfl ?_)|(show ZL _ _ _ (⟨_,(.binOp .sub _ _ _ _),_,_,_,_⟩::_) _ _ _;first|refine a_sub rfl rfl ?_)|(show ZL _ _ _ (⟨_,(.fieldAddr _ _ _),_,_,_,_⟩::_) _ _ _;refine a_fa rfl ?_)|(show ZL _ _ _ (⟨_,(.indexAddr _ _ _),_,_,_,_⟩::_) _ _ _;refine a_ia rfl rfl ?_)|(show ZL _ _ _ (⟨_,(.convert _ _ _),_,_,_,_⟩::_) _ _ _;refine a_conv rfl ?_)|(show ZL _ _ _ (⟨_,(.binOp _ _ _ _ _),_,_,_,_⟩::_) _ _ _;first|refine a_cmpT rfl rfl rfl ?_|refine a_cmpF rfl rfl rfl ?_|refine a_mul rfl rfl ?_))|(show ZC _ _ _ _ _ _;first|refine zS ?_|refine zR ?_|refine zB ?_|refine zA ?_|refine zL ?_|refine zE ?_|refine zT rfl ?_|refine zF rfl ?_)|(show ZK _ _ _ _ _;first|refine zK ?_|refine zX ?_|refine zQ ?_|refine zW ?_|refine zM ?_|refine zY ?_|refine zY' rfl ?_)));exact q.q):X:=h ⟨q⟩
end Go.Z
namespace Go.Proofs.YtbcmiijollpgeaaGreat.T
open Go Go.Z Go.Proofs
def beginsN (l p:List UInt8):Bool:=decide (l.take p.length=p)
theorem begins_calls {w:World} (l p:List UInt8) (hl:l.length≤big) (hp:p.length≤1000):Calls Tryz.prog 47 [.string (bs l),.string (bs p)].toArray w fun e w'=>e= .returned (.bool (beginsN l p))∧w'=w:=by
 have hbig:big=1000000000000:=rfl
 refine zCz 18 Tryz.func47 ?_
 by_cases h:p.length≤l.length
 ·refine zz ?_
  refine z_cutN 0 p.length (want_L rfl) (by decide) rfl rfl rfl rfl rfl (Nat.zero_le _) h ?_
  rw [List.drop_zero,Nat.sub_zero]
  refine zP rfl ?_
  refine zEq rfl rfl (fun hc=> ?_) (fun hc=> ?_)
  ·refine zz ?_
   exact zk_ret1 (.inr rfl) rfl rfl ⟨by unfold beginsN;rw [decide_eq_true hc],rfl⟩
  ·refine zz ?_
   exact zk_ret1 (.inr rfl) rfl rfl ⟨by unfold beginsN;rw [decide_eq_false hc],rfl⟩
 ·refine zz ?_
  refine zk_ret1 (.inr rfl) rfl rfl ⟨?_,rfl⟩
  unfold beginsN
  rw [decide_eq_false (fun hc=>by have:=congrArg List.length hc;rw [List.length_take] at this;omega)]
def letN (c:Nat):Bool:=decide (97≤c∧c≤122∨65≤c∧c≤90)
theorem letter_calls {w:World} (c:Nat):Calls Tryz.prog 107 [.int .u8 c].toArray w fun e w'=>e= .returned (.bool (letN c))∧w'=w:=by
 unfold letN
 refine zCz 17 Tryz.func107 ?_
 repeat' (first|refine za ?_|refine a_cutW rfl rfl rfl fun _ _=> ?_|refine a_catW rfl rfl fun _ _=> ?_|refine a_idxW rfl rfl fun _ _=> ?_|refine a_addW rfl rfl fun _ _=> ?_|refine a_subW rfl rfl fun _ _=> ?_|refine a_min rfl rfl fun _ _ _ _=> ?_|refine a_max rfl rfl fun _ _ _ _=> ?_|refine a_shr rfl rfl fun _ _=> ?_|refine a_and rfl rfl fun _ _=> ?_|refine a_cmp rfl rfl rfl (fun _=> ?_) fun _=> ?_|refine a_eq rfl rfl (fun _=> ?_) fun _=> ?_|refine a_ne rfl rfl (fun _=> ?_) fun _=> ?_)
 all_goals refine zk_ret1 (.inr rfl) rfl rfl ⟨?_,rfl⟩
 all_goals first|(rw [decide_eq_true (by omega)];done)|(rw [decide_eq_false (by omega)];done)
theorem index_at {w:World} (l p:List UInt8) (fr k:Nat) (hl:l.length≤big) (hp:p.length≤big) (hfk:fr≤k) (hk:k+p.length≤l.length) (hat:(l.drop k).take p.length=p) (hno: ∀j,fr≤j→j<k→(l.drop j).take p.length≠p):
  Calls Tryz.prog 16 [.string (bs l),.string (bs p),.int .i64 fr].toArray w fun e w'=>e= .returned (.int .i64 k)∧w'=w:=by
 have hbig:big=1000000000000:=rfl
 refine zCz 29 Tryz.func16 ?_
 refine zz ?_
 refine z_maxW (want_L rfl) (by decide) rfl rfl (fun c h1 h2 h3=> ?_)
 obtain rfl:c=fr:=by omega
 refine zz ?_
 refine zc_loopW (ι:=Nat) (fun i u=> [(0,.string (bs l)),(1,.string (bs p)),(7,.int .i64 (i:Nat))]) (fun i u=>fr≤i∧i≤k∧u=w) (fun i u=>k+1 - i) fr ⟨Nat.le_refl _,hfk,rfl⟩ ⟨rfl,rfl,rfl,trivial⟩ ?_
 rintro i u ⟨hfi,hi,hu⟩
 obtain rfl:=hu.symm
 refine zz ?_
 refine z_cutN i (i+p.length) (want_L rfl) (by decide) rfl rfl rfl rfl (by omega) (by omega) (by omega) ?_
 rw [show i+p.length - i=p.length by omega]
 refine zP rfl ?_
 refine zEq rfl rfl (fun hc=> ?_) (fun hc=> ?_)
 ·have:i=k:=by
   rcases Nat.lt_or_ge i k with h|h
   ·exact absurd hc (hno i hfi h)
   ·omega
  subst this
  refine zz ?_
  exact zk_ret1 (.inr rfl) rfl rfl ⟨rfl,rfl⟩
 ·have:i≠k:=fun h=>hc (h▸hat)
  refine zz ?_
  exact zk_loopW (i+1) ⟨by omega,by omega,rfl⟩ (by omega) ⟨rfl,rfl,get_int rfl (by omega),trivial⟩
theorem take_step (l:List UInt8) (i:Nat) (h:i<l.length):l.take i++(l.drop i).take (i+1 - i)=l.take (i+1):=by
 rw [show i+1 - i=1 by omega,List.take_one,List.head?_drop,List.take_add_one]
theorem clear_calls {w:World} (l:List UInt8) (hl:l.length≤big) (h0:0∉l):Calls Tryz.prog 70 [.string (bs l)].toArray w fun e w'=>e= .returned (.string (bs l))∧w'=w:=by
 have hbig:big=1000000000000:=rfl
 refine zCz 25 Tryz.func70 ?_
 refine zz ?_
 refine zc_loopW (ι:=Nat) (fun i u=> [(0,.string (bs l)),(3,.string (bs (l.take i))),(4,.int .i64 (i:Nat))]) (fun i u=>i≤l.length∧u=w) (fun i u=>l.length - i) 0 ⟨Nat.zero_le _,rfl⟩ ⟨rfl,rfl,rfl,trivial⟩ ?_
 rintro i u ⟨hi,hu⟩
 obtain rfl:=hu.symm
 by_cases hlt:i<l.length
 ·have hz:Z.byteL l i≠0:=fun h=>h0 (by
   have e:l[i]=0:=by
    have:l[i].toNat=(0:UInt8).toNat:=by rw [←show Z.byteL l i=l[i].toNat by unfold Z.byteL;rw [List.getD_eq_getElem?_getD,List.getElem?_eq_getElem hlt];rfl];exact h
    exact UInt8.toNat_inj.1 this
   rw [←e];exact List.getElem_mem hlt)
  have hlk:(l.take i).length=i:=by rw [List.length_take];omega
  refine zz ?_
  refine z_cutN i (i+1) (want_L rfl) (by decide) rfl rfl rfl rfl rfl (by omega) (by omega) ?_
  have h1:((l.drop i).take (i+1 - i)).length=1:=by rw [List.length_take,List.length_drop];omega
  refine z_catL (want_L rfl) (by decide) rfl rfl (by omega) ?_
  rw [take_step l i hlt]
  refine zz ?_
  exact zk_loopW (i+1) ⟨by omega,rfl⟩ (by omega) ⟨rfl,rfl,get_int rfl (by omega),trivial⟩
 ·obtain rfl:i=l.length:=by omega
  rw [List.take_length]
  refine zz ?_
  exact zk_ret1 (.inr rfl) rfl rfl ⟨rfl,rfl⟩
theorem drop0_calls {w:World} (l:List UInt8) (hl:l.length≤big) (h0:0∉l):Calls Tryz.prog 126 [.string (bs l)].toArray w fun e w'=>e= .returned (.string (bs l))∧w'=w:=by
 have hbig:big=1000000000000:=rfl
 refine zCz 23 Tryz.func126 ?_
 refine zz ?_
 refine zc_loopW (ι:=Nat) (fun i u=> [(0,.string (bs l)),(3,.string (bs (l.take i))),(4,.int .i64 (i:Nat))]) (fun i u=>i≤l.length∧u=w) (fun i u=>l.length - i) 0 ⟨Nat.zero_le _,rfl⟩ ⟨rfl,rfl,rfl,trivial⟩ ?_
 rintro i u ⟨hi,hu⟩
 obtain rfl:=hu.symm
 by_cases hlt:i<l.length
 ·have hz:Z.byteL l i≠0:=fun h=>h0 (by
   have e:l[i]=0:=by
    have:l[i].toNat=(0:UInt8).toNat:=by rw [←show Z.byteL l i=l[i].toNat by unfold Z.byteL;rw [List.getD_eq_getElem?_getD,List.getElem?_eq_getElem hlt];rfl];exact h
    exact UInt8.toNat_inj.1 this
   rw [←e];exact List.getElem_mem hlt)
  have hlk:(l.take i).length=i:=by rw [List.length_take];omega
  refine zz ?_
  refine z_cutN i (i+1) (want_L rfl) (by decide) rfl rfl rfl rfl rfl (by omega) (by omega) ?_
  have h1:((l.drop i).take (i+1 - i)).length=1:=by rw [List.length_take,List.length_drop];omega
  refine z_catL (want_L rfl) (by decide) rfl rfl (by omega) ?_
  rw [take_step l i hlt]
  refine zz ?_
  exact zk_loopW (i+1) ⟨by omega,rfl⟩ (by omega) ⟨rfl,rfl,get_int rfl (by omega),trivial⟩
 ·obtain rfl:i=l.length:=by omega
  rw [List.take_length]
  refine zz ?_
  exact zk_ret1 (.inr rfl) rfl rfl ⟨rfl,rfl⟩
theorem fold_calls {w:World} (l:List UInt8) (hl:l.length≤big) (hup: ∀j,j<l.length→ ¬(65≤(l.getD j 0).toNat∧(l.getD j 0).toNat≤90)):Calls Tryz.prog 76 [.string (bs l)].toArray w fun e w'=>e= .returned (.string (bs l))∧Chg w w' No:=by
 have hbig:big=1000000000000:=rfl
 refine zCz 35 Tryz.func76 ?_
 refine zz ?_
 refine z_convSB (want_L rfl) (by decide) rfl (fun w1 b c z hb hC hB hc=> ?_)
 refine zz ?_
 refine zc_loopW (ι:=Nat) (fun q u=> [(3,.slice (some ⟨b,0,none⟩) l.length c),(4,.int .i64 (q:Nat))]) (fun q u=>q≤l.length∧Chg w u No∧BlkB u b 5 (cellsB l++z)) (fun q u=>l.length - q) 0 ⟨Nat.zero_le _,hC,hB⟩ ?_ ?_
 ·exact ⟨rfl,rfl,trivial⟩
 rintro k u ⟨hk,hC,hB⟩
 by_cases hkl:k<l.length
 ·have hcell:u.cell? ⟨b,k,none⟩=some (.int .u8 ((l.getD k 0).toNat:Nat)):=by
   rw [hB.cell,List.getElem?_append_left (by simp [cellsB];exact hkl),cellsB_at _ k hkl]
  have hu:=hup k hkl
  obtain ⟨cc,hcc⟩: ∃x,x=(l.getD k 0).toNat:=⟨_,rfl⟩
  rw [←hcc] at hcell hu
  by_cases h65:65≤cc
  ·refine zz ?_
   refine zL1 rfl (cell_at hcell (by omega)) (zz ?_)
   refine zL1 rfl (cell_at hcell (by omega)) (zz ?_)
   exact zk_loopW (k+1) ⟨by omega,hC,hB⟩ (by omega) ⟨rfl,get_int rfl (by omega),trivial⟩
  ·refine zz ?_
   refine zL1 rfl (cell_at hcell (by omega)) (zz ?_)
   exact zk_loopW (k+1) ⟨by omega,hC,hB⟩ (by omega) ⟨rfl,get_int rfl (by omega),trivial⟩
 ·have hrb:=hB.rb (c:=c) (by omega)
  refine zz ?_
  refine z_convBS (want_L rfl) (by decide) rfl hrb ?_
  refine zz ?_
  exact zk_ret1 (.inr rfl) rfl rfl ⟨rfl,hC⟩
theorem blanks_calls {w:World} (l:List UInt8) (p k:Nat) (hl:l.length≤big) (hpk:p≤k) (hk:k≤l.length) (hb: ∀j,p≤j→j<k→blankN (Z.byteL l j)=true) (he:k<l.length→blankN (Z.byteL l k)=false):
  Calls Tryz.prog 143 [.string (bs l),.int .i64 p].toArray w fun e w'=>e= .returned (.int .i64 k)∧w'=w:=by
 have hbig:big=1000000000000:=rfl
 refine zCz 18 Tryz.func143 ?_
 refine zz ?_
 refine zc_loopW (ι:=Nat) (fun i u=> [(0,.string (bs l)),(1,.int .i64 (i:Nat))]) (fun i u=>p≤i∧i≤k∧u=w) (fun i u=>k - i) p ⟨Nat.le_refl _,hpk,rfl⟩ ⟨rfl,rfl,trivial⟩ ?_
 rintro i u ⟨hpi,hi,hu⟩
 obtain rfl:=hu.symm
 by_cases hlt:i<l.length
 ·refine zz ?_
  refine zCp rfl (blankR_calls (Z.byteL l i)) ?_
  by_cases hik:i<k
  ·rw [hb i hpi hik]
   refine zz ?_
   exact zk_loopW (i+1) ⟨by omega,by omega,rfl⟩ (by omega) ⟨rfl,get_int rfl (by omega),trivial⟩
  ·obtain rfl:i=k:=by omega
   rw [he hlt]
   refine zz ?_
   exact zk_ret1 (.inr rfl) rfl rfl ⟨rfl,rfl⟩
 ·obtain rfl:i=k:=by omega
  refine zz ?_
  exact zk_ret1 (.inr rfl) rfl rfl ⟨rfl,rfl⟩
theorem inR_calls {w:World} {v:Value} (l:List (List UInt8)) (x:List UInt8) (h:RdS w 9 1 v l.length (cellsS l)) (hl:l.length≤100000):Calls Tryz.prog 97 [v,.string (bs x)].toArray w fun e w'=>e= .returned (.bool (decide (x∈l)))∧w'=w:=by
 obtain ⟨A,c,rfl,hc⟩:=h.form
 refine zCz 18 Tryz.func97 ?_
 refine zz ?_
 refine zc_loopW (ι:=Nat) (fun i u=> [(0,.slice A l.length c),(1,.string (bs x)),(5,.int .i64 i)]) (fun i u=>i≤l.length∧(∀j,j<i→l.getD j []≠x)∧u=w) (fun i u=>l.length - i) 0 ⟨Nat.zero_le _,fun j hj=>absurd hj (Nat.not_lt_zero j),rfl⟩ ?_ ?_
 ·exact ⟨rfl,rfl,rfl,trivial⟩
 rintro i u ⟨hi,hno,hu⟩
 obtain rfl:=hu.symm
 by_cases hlt:i<l.length
 ·obtain ⟨b,o,c',hv,_,hcell⟩:=h.some (by omega)
  cases hv
  have hc0:=hcell (i*1) _ (by rw [Nat.mul_one];exact cellsS_at l i hlt)
  refine zz ?_
  refine zEq rfl rfl (fun hc=> ?_) (fun hc=> ?_)
  ·refine zz ?_
   exact zk_ret1 (.inr rfl) rfl rfl ⟨by rw [decide_eq_true (by rw [←hc];exact getD_mem l i hlt)],rfl⟩
  ·refine zz ?_
   exact zk_loopW (i+1) ⟨by omega,fun j hj=>by
    rcases Nat.lt_or_ge j i with h1|h1
    ·exact hno j h1
    ·obtain rfl:j=i:=by omega
     exact hc,rfl⟩ (by omega) ⟨rfl,rfl,get_int rfl (by simp),trivial⟩
 ·obtain rfl:i=l.length:=by omega
  refine zz ?_
  refine zk_ret1 (.inr rfl) rfl rfl ⟨?_,rfl⟩
  rw [decide_eq_false (fun hm=> ?_)]
  obtain ⟨j,hj,he⟩:=List.getElem_of_mem hm
  exact hno j hj (by rw [List.getD_eq_getElem?_getD,List.getElem?_eq_getElem hj];exact he)
def shW:List UInt8:= [97,109,112,32,99,111,112,121,32,103,116,32,108,116,32,110,98,115,112,32,110,111,116,32,112,97,114,97,32,113,117,111,116,32,114,101,103,32,115,104,121,32,115,117,112,49,32,115,117,112,50,32,116,105,109,101,115]
def loW:List UInt8:= [84,97,98,32,78,101,119,76,105,110,101,32,97,112,111,115,32,108,112,97,114,32,99,111,108,111,110,32,112,97,114,116,32,110,111,116,105,110,32,115,117,98,32,115,117,112,32,116,105,109,101,115,98,32,104,101,108,108,105,112,32,109,100,97,115,104,32,110,100,97,115,104,32,108,115,113,117,111,32,114,115,113,117,111,32,108,100,113,117,111,32,114,100,113,117,111,32,101,117,114,111]
def shN:List (List UInt8):=wordsN [] shW
def loN:List (List UInt8):=wordsN [] loW
def shV:List Nat:= [38,169,62,60,160,172,182,34,174,173,185,178,215]
def loV:List Nat:= [9,10,39,40,58,8706,8713,8834,8835,8864,8230,8212,8211,8216,8217,8220,8221,8364]
theorem shN_len:shN.length=13:=by decide+kernel
theorem loN_len:loN.length=18:=by decide+kernel
theorem sh_lt: ∀x∈shV,x<70000:=by decide
theorem lo_lt: ∀x∈loV,x<70000:=by decide
def ints (l:List Nat):List Value:=l.map fun n=> .int .i64 ((n:Nat):Int)
theorem ints_at (l:List Nat) (i:Nat) (h:i<l.length):(ints l)[i]? =some (.int .i64 ((l.getD i 0:Nat):Int)):=by
 simp [ints,List.getD_eq_getElem?_getD,List.getElem?_eq_getElem h]
theorem short_calls {w:World}:Calls Tryz.prog 173 ([]:List Value).toArray w fun e w'=>(∃v b,e= .returned (.tuple #[v,.slice (some ⟨b,0,none⟩) 13 13])∧Own w' 9 1 v 13 (cellsS shN)∧Blk w' b 3 (ints shV))∧Chg w w' No:=by
 refine zCz 4 Tryz.func173 ?_
 refine zz ?_
 refine zCl rfl (wordsR_calls (l:=shW) (by decide)) ?_
 rintro _ w1 ⟨v,rfl,hO,hC⟩
 refine ⟨_,rfl,?_⟩
 refine z_bsE (ints shV) (want_L rfl) (by decide) rfl (by decide) (by decide) (by kernel_rfl) (fun w2 b hN=> ?_)
 refine zz ?_
 have hl:(wordsN [] shW).length=13:=shN_len
 rw [hl] at hO
 exact zk_ret2 (.inr rfl) rfl rfl rfl ⟨⟨v,b,rfl,hO.no hN.chg,hN.blk⟩,hC.no hN.chg⟩
theorem long_calls {w:World}:Calls Tryz.prog 174 ([]:List Value).toArray w fun e w'=>(∃v b,e= .returned (.tuple #[v,.slice (some ⟨b,0,none⟩) 18 18])∧Own w' 9 1 v 18 (cellsS loN)∧Blk w' b 3 (ints loV))∧Chg w w' No:=by
 refine zCz 4 Tryz.func174 ?_
 refine zz ?_
 refine zCl rfl (wordsR_calls (l:=loW) (by decide)) ?_
 rintro _ w1 ⟨v,rfl,hO,hC⟩
 refine ⟨_,rfl,?_⟩
 refine z_bsE (ints loV) (want_L rfl) (by decide) rfl (by decide) (by decide) (by kernel_rfl) (fun w2 b hN=> ?_)
 refine zz ?_
 have hl:(wordsN [] loW).length=18:=loN_len
 rw [hl] at hO
 exact zk_ret2 (.inr rfl) rfl rfl rfl ⟨⟨v,b,rfl,hO.no hN.chg,hN.blk⟩,hC.no hN.chg⟩
end Go.Proofs.YtbcmiijollpgeaaGreat.T
namespace Go.Z
open Go
def okDstS (keys:List Nat) (n:Nat) (ops:Array Oper):Bool:=
 (List.range ops.size).all fun i=>match dstOf ops i with
  |some d=>decide (d<n) && !keys.contains d && (List.range ops.size).all fun j=>i==j||dstOf ops j !=some d
  |none=>true
theorem okDstS_at {keys:List Nat} {n:Nat} {ops:Array Oper} (h:okDstS keys n ops=true) {i:Nat} (hi:i<ops.size) {d:Tmp} (hd:dstOf ops i=some d):d<n∧d∉keys∧ ∀j,j<ops.size→j≠i→dstOf ops j≠some d:=by
 have h1:=List.all_eq_true.1 h i (List.mem_range.2 hi)
 simp only [hd,Bool.and_eq_true,decide_eq_true_eq,Bool.not_eq_true',List.all_eq_true,List.mem_range,Bool.or_eq_true,beq_iff_eq,bne_iff_ne] at h1
 obtain ⟨⟨h2,h3⟩,h4⟩:=h1
 refine ⟨h2,fun hk=> ?_,fun j hj hji=> ?_⟩
 ·have:keys.contains d=true:=by simpa using hk
  rw [this] at h3;cases h3
 ·rcases h4 j hj with e|e
  ·exact absurd e.symm hji
  ·exact e
section
variable {P : Program} {n : Nat} {e : Env} {w : World} {Q : Exit → Act → World → Prop}
def fwdS (ops:Array Oper):Bool:=(List.range ops.size).all fun i=>match ops[i]? with
 |some o=>o.after.all fun e=> !Region.binds .any e||decide (e.on<i)
 |none=>true
theorem fwdS_live {ops:Array Oper} (h:fwdS ops=true) {b:Array Bool} (hsz:b.size=ops.size) (h0:Region.ready .any ops b= []): ∀i,i<ops.size→b.getD i false=true:=by
 intro i
 induction i using Nat.strongRecOn with
 |ind i ih=>
  intro hi
  rcases hb:b.getD i false with _|_
  ·exfalso
   have hin:i∈Region.ready .any ops b:=by
    refine mem_ready.2 ⟨?_,ops[i],by simp [hi],fun e he hbe=> ?_⟩
    ·have:i<b.size:=by omega
     simpa [this] using hb
    ·have h1:=List.all_eq_true.1 h i (List.mem_range.2 hi)
     have h2:ops[i]? =some ops[i]:=by simp [hi]
     simp only [h2] at h1
     have h3:=Array.all_eq_true_iff_forall_mem.1 h1 e he
     have h4:e.on<i:=by
      simp only [Bool.or_eq_true,Bool.not_eq_true',decide_eq_true_eq] at h3
      rcases h3 with h3|h3
      ·rw [hbe] at h3;cases h3
      ·exact h3
     exact ih e.on h4 (by omega)
   rw [h0] at hin;cases hin
  ·rfl
theorem fwdS_lt {ops:Array Oper} (h:fwdS ops=true) {i j:Nat} (hw:waits ops i j=true) (hi:i<ops.size):j<i:=by
 have h1:=List.all_eq_true.1 h i (List.mem_range.2 hi)
 have h2:ops[i]? =some ops[i]:=by simp [hi]
 simp only [h2] at h1
 simp only [waits,h2] at hw
 obtain ⟨e,he,hb⟩:=Array.any_eq_true'.1 hw
 simp only [Bool.and_eq_true,beq_iff_eq] at hb
 have h3:=Array.all_eq_true_iff_forall_mem.1 h1 e he
 simp only [Bool.or_eq_true,Bool.not_eq_true',decide_eq_true_eq] at h3
 rcases h3 with h3|h3
 ·rw [hb.1] at h3;cases h3
 ·omega
def StepS (P:Program) (ops:Array Oper) (n:Nat) (e0:Env) (G:Nat→Value→World→Prop) (kill:Nat→Nat) (T:Array Bool→World→Prop) (Q:Exit→Act→World→Prop) (i:Nat):Prop:=
 ∀b a w,b.size=ops.size→b.getD i false=false→(∀k j,b.getD k false=true→waits ops k j=true→b.getD j false=true)→(∀j,waits ops i j=true→b.getD j false=true)→LkK ops n e0 G (T b) (fun j=>waits ops i j=true) (fun j=> ¬(kill j=i∨ops.size≤kill j)) a w→
  wpOp P ops (NP Q) i (fun a' w'=>(∀d,dstOf ops i=some d→ ∃v,a'=a.put (some d) v∧G i v w')∧(dstOf ops i=none→a'=a)∧T (b.setIfInBounds i true) w'∧ ∀j u,j≠i→kill j≠i→G j u w→G j u w') a w
theorem LkK.putS {ops:Array Oper} {e0:Env} {G:Nat→Value→World→Prop} {kill:Nat→Nat} {T T':World→Prop} (hok:okDstS (e0.map Prod.fst) n ops=true) {D K:Nat→Prop} (hD: ∀j,D j→j<ops.size) {a a':Act} {w w':World} (h:LkK ops n e0 G T D K a w) {i:Nat} (hi:i<ops.size) (hni: ¬D i)
  (hG: ∀d,dstOf ops i=some d→ ∃v,a'=a.put (some d) v∧G i v w') (hN:dstOf ops i=none→a'=a) (hT:T' w') (hf: ∀j u,j≠i→kill j≠i→G j u w→G j u w'):LkK ops n e0 G T' (fun j=>D j∨j=i) (fun j=>K j∨kill j=i) a' w':=by
 cases hd:dstOf ops i with
 |none=>
  obtain rfl:=hN hd
  refine ⟨h.ok,hT,fun j hj dj hdj=> ?_⟩
  rcases hj with hj|rfl
  ·obtain ⟨u,h1,h2⟩:=h.dep j hj dj hdj
   exact ⟨u,h1,fun hk=>hf j u (fun he=>hni (he▸hj)) (fun he=>hk (.inr he)) (h2 (fun he=>hk (.inl he)))⟩
  ·rw [hd] at hdj;cases hdj
 |some d=>
  obtain ⟨v,rfl,hGv⟩:=hG d hd
  obtain ⟨hdn,hdk,hdo⟩:=okDstS_at hok hi hd
  have hsz:=h.ok.size
  refine ⟨⟨h.ok.defers,by simp [Act.put,hsz],fun k u hk=> ?_⟩,hT,fun j hj dj hdj=> ?_⟩
  ·have hne:d≠k:=fun he=>hdk (he▸get_keys e0 k u hk)
   simp only [Act.put,Array.getElem?_setIfInBounds_ne hne]
   exact h.ok.at_ k u hk
  ·rcases hj with hj|rfl
   ·obtain ⟨u,h1,h2⟩:=h.dep j hj dj hdj
    have hne:d≠dj:=fun he=>hdo j (hD j hj) (fun hji=>hni (hji▸hj)) (he▸hdj)
    exact ⟨u,by simp only [Act.put,Array.getElem?_setIfInBounds_ne hne];exact h1,fun hk=>hf j u (fun he=>hni (he▸hj)) (fun he=>hk (.inr he)) (h2 (fun he=>hk (.inl he)))⟩
   ·rw [hd] at hdj;cases hdj
    exact ⟨v,by simp [Act.put,hsz,hdn],fun _=>hGv⟩
theorem zc_drawS {id:Nat} {l:List Oper} (G:Nat→Value→World→Prop) (kill:Nat→Nat) (T:Array Bool→World→Prop) (e0:Env) (hm:P.follows .mixedOrders=true) (hok:okDstS (e0.map Prod.fst) n l.toArray=true) (hfw:fwdS l.toArray=true) (hsub:Sub e0 e) (hT: ∀w',Chg w w' No→w'.heap=w.heap→T (Array.replicate l.toArray.size false) w')
  (hstep: ∀i,i<l.toArray.size→StepS P l.toArray n e0 G kill T Q i)
  (hfin: ∀b a w',(∀i,i<l.toArray.size→b.getD i false=true)→LkK l.toArray n e0 G (T b) (fun j=>j<l.toArray.size) (fun j=> ¬l.toArray.size≤kill j) a w'→NP Q .normal a w'):ZC P n (.region id l.toArray true) e w Q:=by
 unfold ZC
 intro a ha
 refine wp_mono (wp_region_any (Q:=NP Q) hm ?_) NP.le
 refine wpAny_inv (fun b a w=>(∀k j,b.getD k false=true→waits l.toArray k j=true→b.getD j false=true)∧LkK l.toArray n e0 G (T b) (fun j=>j<l.toArray.size∧b.getD j false=true) (fun j=>b.getD (kill j) false=true) a w) ?_ ?_ _ _ _ _ (by simp) (by simp [List.count_replicate]) ?_
 ·intro b a w i hsz hi ⟨hcl,h⟩
  obtain ⟨h0,o,ho,_⟩:=mem_ready.1 hi
  have hlt:i<l.toArray.size:=(Array.getElem?_eq_some_iff.1 ho).1
  have hb:b.getD i false=false:=by
   have h1:i<b.size:=by omega
   simpa [h1] using h0
  have hni: ¬(i<l.toArray.size∧b.getD i false=true):=fun hh=>by rw [hb] at hh;cases hh.2
  have hkl: ∀j,(kill j=i∨l.toArray.size≤kill j)→b.getD (kill j) false=false:=fun j hj=>by
   rcases hj with hj|hj
   ·rw [hj];exact hb
   ·have h':b.size≤kill j:=by omega
    simp [Array.getElem?_eq_none h']
  have hw:=hstep i hlt b a w hsz hb hcl (fun j hj=>waits_of hi hj) ⟨h.ok,h.t,fun j hj d hd=>by
   obtain ⟨v,h1,h2⟩:=h.dep j ⟨by have:=fwdS_lt hfw hj hlt;omega,waits_of hi hj⟩ d hd
   exact ⟨v,h1,fun hk=>h2 (fun he=>by rw [hkl j (Classical.not_not.1 hk)] at he;cases he)⟩⟩
  refine wpOp_mono (fun a' w' ⟨hG,hN,hT',hf⟩=>⟨?_,?_⟩) hw
  ·intro k j hk hw'
   by_cases hj:j=i
   ·subst hj
    have h3:j<b.size:=by omega
    simp [h3]
   ·rw [gd_ne (Ne.symm hj)]
    by_cases hk':k=i
    ·subst hk';exact waits_of hi hw'
    ·rw [gd_ne (Ne.symm hk')] at hk
     exact hcl k j hk hw'
  ·have:=LkK.putS hok (fun j hj=>hj.1) h hlt hni hG hN hT' hf
   refine ⟨this.ok,this.t,fun j hj dj hdj=> ?_⟩
   obtain ⟨v,h1,h2⟩:=this.dep j (by
    by_cases hji:j=i
    ·exact .inr hji
    ·refine .inl ⟨hj.1,?_⟩
     have:=hj.2
     rwa [gd_ne (Ne.symm hji)] at this) dj hdj
   refine ⟨v,h1,fun hk=>h2 (fun he=>hk ?_)⟩
   rcases he with he|he
   ·by_cases hki:i=kill j
    ·rw [←hki] at he;rw [hb] at he;cases he
    ·rw [gd_ne hki];exact he
   ·rw [he]
    have h3:i<b.size:=by omega
    simp [h3]
 ·intro b a w hsz h0 ⟨hcl,h⟩
  have hlv:=fwdS_live hfw hsz h0
  have hkl: ∀j,l.toArray.size≤kill j→b.getD (kill j) false=false:=fun j hj=>by
   have h':b.size≤kill j:=by omega
   simp [Array.getElem?_eq_none h']
  exact hfin b a w hlv ⟨h.ok,h.t,fun j hj d hd=>by
   obtain ⟨v,h1,h2⟩:=h.dep j ⟨hj,hlv j hj⟩ d hd
   exact ⟨v,h1,fun hk=>h2 (fun he=>by rw [hkl j (Classical.not_not.1 hk)] at he;cases he)⟩⟩
 ·refine ⟨(by intro k j hk;rw [gd_rep] at hk;cases hk),ha.sub hsub,hT _ ⟨rfl,rfl,rfl,Nat.le_refl _,fun _ _ _=>rfl⟩ rfl,fun j hj=> ?_⟩
  have:=hj.2
  rw [gd_rep] at this;cases this
variable {ops : Array Oper} {K : Act → World → Prop} {i : Nat} {o : Oper} {d : Tmp} {v : Value} {a : Act}
end
section
variable {P : Program} {n : Nat} {e : Env} {w : World} {Q : Exit → Act → World → Prop} {ops : Array Oper} {rest : List Oper}
variable {d : Tmp} {ty : TypeId} {pos : String} {aft : Array Edge} {g : Option (Nat × Bool)} {ks : List Nat} {S : World → Prop}
end
open Go
section
variable {P : Program} {n : Nat} {e : Env} {w : World} {a : Act}
theorem gS {ops:Array Oper} {G:Nat→Value→World→Prop} {i d0:Nat} {v:Value} (h0:dstOf ops i=some d0) (hG:G i v w): ∀d,dstOf ops i=some d→ ∃u,a.put (some d0) v=a.put (some d) u∧G i u w:=fun d hd=>by
 rw [h0] at hd;cases hd;exact ⟨v,rfl,hG⟩
theorem gN {ops:Array Oper} {G:Nat→Value→World→Prop} {i:Nat} {a':Act} (h0:dstOf ops i=none): ∀d,dstOf ops i=some d→ ∃u,a'=a.put (some d) u∧G i u w:=fun d hd=>by
 rw [h0] at hd;cases hd
theorem gT {ops:Array Oper} {i d0:Nat} {a':Act} (h0:dstOf ops i=some d0):dstOf ops i=none→a'=a:=fun hd=>by
 rw [h0] at hd;cases hd
theorem gd_eq {b:Array Bool} {i:Nat} (h:i<b.size):(b.setIfInBounds i true).getD i false=true:=by simp [h]
end
open Go
section
variable {P : Program} {n : Nat} {e : Env} {w : World} {Q : Exit → Act → World → Prop}
def Step2 (P:Program) (ops:Array Oper) (n:Nat) (e0:Env) (G:Nat→Value→World→Prop) (T:Array Bool→World→Prop) (Q:Exit→Act→World→Prop) (i:Nat):Prop:=
 ∀b a w,b.size=ops.size→b.getD i false=false→(∀k j,b.getD k false=true→waits ops k j=true→b.getD j false=true)→Lk ops n e0 G (T b) (fun j=>waits ops i j=true) a w→ ∃d,dstOf ops i=some d∧wpOp P ops (NP Q) i (fun a' w'=> ∃v,a'=a.put (some d) v∧G i v w'∧T (b.setIfInBounds i true) w'∧ ∀j u,j≠i→b.getD j false=true→G j u w→G j u w') a w
theorem Lk.put2 {ops:Array Oper} {e0:Env} {G:Nat→Value→World→Prop} {T T':World→Prop} {m:Nat} (hok:okDst (e0.map Prod.fst) n m ops=true) {D:Nat→Prop} (hD: ∀j,D j→j<m) {a:Act} {w w':World} (h:Lk ops n e0 G T D a w) {i:Nat} (hi:i<m) (hni: ¬D i) {d:Tmp} (hd:dstOf ops i=some d) {v:Value}
  (hG:G i v w') (hT:T' w') (hf: ∀j u,j≠i→D j→G j u w→G j u w'):Lk ops n e0 G T' (fun j=>D j∨j=i) (a.put (some d) v) w':=by
 obtain ⟨d',hd',hdn,hdk,hdo⟩:=okDst_at hok hi
 rw [hd] at hd';cases hd'
 have hsz:=h.ok.size
 refine ⟨⟨h.ok.defers,by simp [Act.put,hsz],fun k u hk=> ?_⟩,hT,fun j hj dj hdj=> ?_⟩
 ·have hne:d≠k:=fun he=>hdk (he▸get_keys e0 k u hk)
  simp only [Act.put,Array.getElem?_setIfInBounds_ne hne]
  exact h.ok.at_ k u hk
 ·rcases hj with hj|rfl
  ·obtain ⟨u,h1,h2⟩:=h.dep j hj dj hdj
   have hne:d≠dj:=fun he=>hdo j (hD j hj) (fun hji=>hni (hji▸hj)) (he▸hdj)
   exact ⟨u,by simp only [Act.put,Array.getElem?_setIfInBounds_ne hne];exact h1,hf j u (fun he=>hni (he▸hj)) hj h2⟩
  ·rw [hd] at hdj;cases hdj
   exact ⟨v,by simp [Act.put,hsz,hdn],hG⟩
theorem gd_set {b:Array Bool} {i:Nat} (h:i<b.size):(b.setIfInBounds i true).getD i false=true:=by simp [h]
theorem zc_draw2 {id:Nat} {l:List Oper} (m:Nat) (G:Nat→Value→World→Prop) (T:Array Bool→World→Prop) (e0:Env) (hm:P.follows .mixedOrders=true) (hok:okDst (e0.map Prod.fst) n m l.toArray=true) (hfw:fwd l.toArray=true) (hsub:Sub e0 e) (hT: ∀w',Chg w w' No→w'.heap=w.heap→T (Array.replicate l.toArray.size false) w')
  (hstep: ∀i,i<m→Step2 P l.toArray n e0 G T Q i) (hmz:m+2=l.toArray.size) (hl1: ∀b:Array Bool,(∀k j,b.getD k false=true→waits l.toArray k j=true→b.getD j false=true)→(∀j,waits l.toArray m j=true→b.getD j false=true)→ ∀j,j<m→b.getD j false=true) (hl2: ∀b:Array Bool,(∀k j,b.getD k false=true→waits l.toArray k j=true→b.getD j false=true)→(∀j,waits l.toArray (m+1) j=true→b.getD j false=true)→ ∀j,j<m→b.getD j false=true)
  (hfin: ∀b a w',Lk l.toArray n e0 G (T b) (fun j=>j<m) a w'→wpOp P l.toArray (NP Q) m (fun a w=>wpOp P l.toArray (NP Q) (m+1) (NP Q .normal) a w) a w'∧wpOp P l.toArray (NP Q) (m+1) (fun a w=>wpOp P l.toArray (NP Q) m (NP Q .normal) a w) a w'):ZC P n (.region id l.toArray true) e w Q:=by
 unfold ZC
 intro a ha
 refine wp_mono (wp_region_any (Q:=NP Q) hm ?_) NP.le
 refine wpAny_inv (fun b a w=>(b.getD m false=false∧b.getD (m+1) false=false∧(∀k j,b.getD k false=true→waits l.toArray k j=true→b.getD j false=true)∧Lk l.toArray n e0 G (T b) (fun j=>j<m∧b.getD j false=true) a w)∨
  ((∀j,j<m→b.getD j false=true)∧((b.getD m false=true∧b.getD (m+1) false=false∧wpOp P l.toArray (NP Q) (m+1) (NP Q .normal) a w)∨(b.getD m false=false∧b.getD (m+1) false=true∧wpOp P l.toArray (NP Q) m (NP Q .normal) a w)∨(b.getD m false=true∧b.getD (m+1) false=true∧NP Q .normal a w)))) ?_ ?_ _ _ _ _ (by simp) (by simp [List.count_replicate]) ?_
 ·intro b a w i hsz hi h
  obtain ⟨h0,o,ho,_⟩:=mem_ready.1 hi
  have hlt:i<l.toArray.size:=(Array.getElem?_eq_some_iff.1 ho).1
  have hib:i<b.size:=by omega
  have hb:b.getD i false=false:=by simpa [hib] using h0
  have hne: ∀{k:Nat},k≠i→(b.setIfInBounds i true).getD k false=b.getD k false:=fun h=>gd_ne (Ne.symm h) false
  rcases h with ⟨hbm,hbm1,hcl,h⟩|⟨hall,h⟩
  ·by_cases him:i<m
   ·have hni: ¬(i<m∧b.getD i false=true):=fun hh=>by rw [hb] at hh;cases hh.2
    have hjm: ∀j,waits l.toArray i j=true→j<m:=fun j hj=>by
     have hfi:=List.all_eq_true.1 hfw i (List.mem_range.2 hlt)
     simp only [ho] at hfi
     simp only [waits,ho] at hj
     obtain ⟨e,he,hbe⟩:=Array.any_eq_true'.1 hj
     simp only [Bool.and_eq_true,beq_iff_eq] at hbe
     have h3:=Array.all_eq_true_iff_forall_mem.1 hfi e he
     have h4:e.on<i:=by simpa using h3
     omega
    obtain ⟨d,hd,hw⟩:=hstep i him b a w hsz hb hcl ⟨h.ok,h.t,fun j hj d hd=>h.dep j ⟨hjm j hj,waits_of hi hj⟩ d hd⟩
    refine wpOp_mono (fun a' w' ⟨v,ha',hG,hT',hf⟩=> .inl ⟨?_,?_,?_,?_⟩) hw
    ·rw [hne (by omega)];exact hbm
    ·rw [hne (by omega)];exact hbm1
    ·intro k j hk hw'
     by_cases hj:j=i
     ·subst hj;exact gd_set hib
     ·rw [hne hj]
      by_cases hk':k=i
      ·subst hk';exact waits_of hi hw'
      ·rw [hne hk'] at hk
       exact hcl k j hk hw'
    ·subst ha'
     have:=Lk.put2 hok (fun j hj=>hj.1) h him hni hd hG hT' (fun j u h1 h2 h3=>hf j u h1 h2.2 h3)
     refine ⟨this.ok,this.t,fun j hj dj hdj=>this.dep j ?_ dj hdj⟩
     by_cases hji:j=i
     ·exact .inr hji
     ·refine .inl ⟨hj.1,?_⟩
      have:=hj.2
      rwa [hne hji] at this
   ·have hall: ∀j,j<m→b.getD j false=true:=fun j hj=>by
     rcases (by omega:i=m∨i=m+1) with rfl|rfl
     ·exact hl1 b hcl (fun j hj=>waits_of hi hj) j hj
     ·exact hl2 b hcl (fun j hj=>waits_of hi hj) j hj
    have h7:=hfin b a w ⟨h.ok,h.t,fun j hj d hd=>h.dep j ⟨hj,hall j hj⟩ d hd⟩
    rcases (by omega:i=m∨i=m+1) with rfl|rfl
    ·refine wpOp_mono (fun a' w' hq=> .inr ⟨fun j hj=> ?_,.inl ⟨gd_set hib,?_,hq⟩⟩) h7.1
     ·rw [hne (by omega)];exact hall j hj
     ·rw [hne (by omega)];exact hbm1
    ·refine wpOp_mono (fun a' w' hq=> .inr ⟨fun j hj=> ?_,.inr (.inl ⟨?_,gd_set hib,hq⟩)⟩) h7.2
     ·rw [hne (by omega)];exact hall j hj
     ·rw [hne (by omega)];exact hbm
  ·rcases h with ⟨h1,h2,hq⟩|⟨h1,h2,hq⟩|⟨h1,h2,hq⟩
   ·have him:i=m+1:=by
     rcases Nat.lt_trichotomy i m with h3|h3|h3
     ·rw [hall i h3] at hb;cases hb
     ·subst h3;rw [h1] at hb;cases hb
     ·omega
    subst him
    refine wpOp_mono (fun a' w' hq=> .inr ⟨fun j hj=> ?_,.inr (.inr ⟨?_,gd_set hib,hq⟩)⟩) hq
    ·rw [hne (by omega)];exact hall j hj
    ·rw [hne (by omega)];exact h1
   ·have him:i=m:=by
     rcases Nat.lt_trichotomy i m with h3|h3|h3
     ·rw [hall i h3] at hb;cases hb
     ·exact h3
     ·have h4:i=m+1:=by omega
      subst h4;rw [h2] at hb;cases hb
    subst him
    refine wpOp_mono (fun a' w' hq=> .inr ⟨fun j hj=> ?_,.inr (.inr ⟨gd_set hib,?_,hq⟩)⟩) hq
    ·rw [hne (by omega)];exact hall j hj
    ·rw [hne (by omega)];exact h2
   ·exfalso
    rcases Nat.lt_trichotomy i m with h3|h3|h3
    ·rw [hall i h3] at hb;cases hb
    ·subst h3;rw [h1] at hb;cases hb
    ·have h4:i=m+1:=by omega
     subst h4;rw [h2] at hb;cases hb
 ·intro b a w hsz h0 h
  have hlv:=fwd_live hfw hsz h0
  rcases h with ⟨hbm,_⟩|⟨_,h⟩
  ·have:=hlv m (by omega);rw [hbm] at this;cases this
  ·rcases h with ⟨_,h2,_⟩|⟨h1,_,_⟩|⟨_,_,hq⟩
   ·have:=hlv (m+1) (by omega);rw [h2] at this;cases this
   ·have:=hlv m (by omega);rw [h1] at this;cases this
   ·exact hq
 ·refine .inl ⟨gd_rep _ _,gd_rep _ _,(by intro k j hk;rw [gd_rep] at hk;cases hk),ha.sub hsub,hT _ ⟨rfl,rfl,rfl,Nat.le_refl _,fun _ _ _=>rfl⟩ rfl,fun j hj=> ?_⟩
  have:=hj.2
  rw [gd_rep] at this;cases this
end
end Go.Z
namespace Go.Proofs.YtbcmiijollpgeaaGreat.T
open Go Go.Z Go.Proofs
def tl (s:ByteArray):List UInt8:=s.data.toList
theorem bs_tl (s:ByteArray):bs (tl s)=s:=by cases s;rfl
def encL (n:Nat):List UInt8:=tl (Utf8.encode (n:Int))
theorem bs_encL (n:Nat):bs (encL n)=Utf8.encode (n:Int):=bs_tl _
structure AP where
 vl:Value
 vv:Value
 ba:Nat
 ca:Nat
 bn:Nat
 i:Nat
 z0:Nat
 B:Nat
 A:List (List UInt8)
 Nn:List Nat
 L:List (List UInt8)
 V:List (List UInt8)
def AP.va (q:AP):Value:= .slice (some ⟨q.ba,0,none⟩) q.A.length q.ca
def AP.vn (q:AP):Value:= .slice (some ⟨q.bn,0,none⟩) q.Nn.length q.Nn.length
def AP.a (q:AP):List UInt8:=q.A.getD q.i []
def AP.n (q:AP):Nat:=q.Nn.getD q.i 0
def Grown (w:World) (B z0:Nat) (v0 u:Value) (cs:List (List UInt8)):Prop:=Own w 9 1 u cs.length (cellsS cs)∧(∀k,u.ownBlock=some k→B≤k)∧(u.ownBlock=v0.ownBlock∨ ∃k,u.ownBlock=some k∧z0≤k)
theorem Grown.no {w w':World} {B z0:Nat} {v0 u:Value} {cs:List (List UInt8)} (h:Grown w B z0 v0 u cs) (hc:Chg w w' No):Grown w' B z0 v0 u cs:=⟨h.1.no hc,h.2⟩
def Fresh2 (w:World) (z0:Nat) (u:Value) (cs:List (List UInt8)):Prop:= ∃b,u= .slice (some ⟨b,0,none⟩) cs.length cs.length∧z0≤b∧Blk w b 9 (cellsS cs)
theorem Fresh2.chg {w w':World} {z0:Nat} {u:Value} {cs:List (List UInt8)} {S:Nat→Prop} (h:Fresh2 w z0 u cs) (hc:Chg w w' S) (hS: ∀k,S k→k<z0):Fresh2 w' z0 u cs:=by
 obtain ⟨b,h1,h2,h3⟩:=h
 exact ⟨b,h1,h2,h3.chg hc (fun hs=>by have:=hS b hs;omega)⟩
theorem Fresh2.rd {w:World} {z0:Nat} {u:Value} {cs:List (List UInt8)} (h:Fresh2 w z0 u cs):RdS w 9 1 u cs.length (cellsS cs):=by
 obtain ⟨b,rfl,_,h3⟩:=h
 exact RdS.blk h3 (by rw [cellsS_len,Nat.mul_one]) (Nat.le_refl _) (cellsS_one cs) 0 (fun j u hj=>by rw [Nat.zero_add];exact hj)
structure AT0 (q:AP) (w:World):Prop where
 oa:Own w 9 1 q.va q.A.length (cellsS q.A)
 bn:Blk w q.bn 3 (ints q.Nn)
 ol:Own w 9 1 q.vl q.L.length (cellsS q.L)
 ov:Own w 9 1 q.vv q.V.length (cellsS q.V)
 z0:w.heap.size=q.z0
 gl: ∀k,q.vl.ownBlock=some k→q.B≤k∧k≠q.ba
 gv: ∀k,q.vv.ownBlock=some k→q.B≤k∧k≠q.ba∧q.vl.ownBlock≠some k
 il:q.i<q.A.length
 iN:q.i<q.Nn.length
 nn: ∀x∈q.Nn,x<70000
 al: ∀x∈q.A,x.length≤1000
 ll:q.L.length≤1000
 vl:q.V.length≤1000
structure ATW (q:AP) (w0:World) (ai av:Nat) (b:Array Bool) (w:World):Prop where
 chg:Chg w0 w (fun k=>q.vl.ownBlock=some k∨q.vv.ownBlock=some k)
 oa:Own w 9 1 q.va q.A.length (cellsS q.A)
 bn:Blk w q.bn 3 (ints q.Nn)
 ol:b.getD ai false=false→Own w 9 1 q.vl q.L.length (cellsS q.L)
 ov:b.getD av false=false→Own w 9 1 q.vv q.V.length (cellsS q.V)
theorem ATW.no {q:AP} {w0 w w':World} {ai av k:Nat} {b:Array Bool} (h:ATW q w0 ai av b w) (hi:k≠ai) (hv:k≠av) (hc:Chg w w' No):ATW q w0 ai av (b.setIfInBounds k true) w':=
 ⟨h.chg.no hc,h.oa.no hc,h.bn.no hc,fun hb=>(h.ol (by rwa [gd_ne hi] at hb)).no hc,fun hb=>(h.ov (by rwa [gd_ne hv] at hb)).no hc⟩
def G7' (q:AP):Nat→Value→World→Prop
 |0,u,w=>u=q.vl
 |1,u,w=>u=q.va
 |2,u,w=>u= .int .i64 ((q.i:Nat):Int)
 |3,u,w=>u= .pointer (some ⟨q.ba,q.i,none⟩)
 |4,u,w=>u= .string (bs q.a)
 |5,u,w=>u=q.va
 |6,u,w=>u= .int .i64 ((q.i:Nat):Int)
 |7,u,w=>u= .pointer (some ⟨q.ba,q.i,none⟩)
 |8,u,w=>u= .string (bs q.a)
 |9,u,w=>u= .string (bs (q.a++ [59]))
 |10,u,w=>Fresh2 w q.z0 u [q.a,q.a++ [59]]
 |11,u,w=>Grown w q.B q.z0 q.vl u (q.L++ [q.a,q.a++ [59]])
 |12,u,w=>u=q.vv
 |13,u,w=>u=q.vn
 |14,u,w=>u= .int .i64 ((q.i:Nat):Int)
 |15,u,w=>u= .pointer (some ⟨q.bn,q.i,none⟩)
 |16,u,w=>u= .int .i64 ((q.n:Nat):Int)
 |17,u,w=>u= .int .i32 ((q.n:Nat):Int)
 |18,u,w=>u= .string (bs (encL q.n))
 |19,u,w=>u=q.vn
 |20,u,w=>u= .int .i64 ((q.i:Nat):Int)
 |21,u,w=>u= .pointer (some ⟨q.bn,q.i,none⟩)
 |22,u,w=>u= .int .i64 ((q.n:Nat):Int)
 |23,u,w=>u= .int .i32 ((q.n:Nat):Int)
 |24,u,w=>u= .string (bs (encL q.n))
 |25,u,w=>Fresh2 w q.z0 u [encL q.n,encL q.n]
 |26,u,w=>Grown w q.B q.z0 q.vv u (q.V++ [encL q.n,encL q.n])
 |_,_,_=>True
def G7 (q:AP) (j:Nat) (v:Value) (w:World):Prop:=G7' q j v w
theorem G7.no {q:AP} {w w':World} (hc:Chg w w' No): ∀j u,G7 q j u w→G7 q j u w'
 |0,u,h=>h
 |1,u,h=>h
 |2,u,h=>h
 |3,u,h=>h
 |4,u,h=>h
 |5,u,h=>h
 |6,u,h=>h
 |7,u,h=>h
 |8,u,h=>h
 |9,u,h=>h
 |10,u,h=>Fresh2.chg h hc (fun _ h=>h.elim)
 |11,u,h=>Grown.no h hc
 |12,u,h=>h
 |13,u,h=>h
 |14,u,h=>h
 |15,u,h=>h
 |16,u,h=>h
 |17,u,h=>h
 |18,u,h=>h
 |19,u,h=>h
 |20,u,h=>h
 |21,u,h=>h
 |22,u,h=>h
 |23,u,h=>h
 |24,u,h=>h
 |25,u,h=>Fresh2.chg h hc (fun _ h=>h.elim)
 |26,u,h=>Grown.no h hc
 |_+27,u,h=>trivial
theorem G7.apl {q:AP} {w0 w w':World} {b:Array Bool} (h0:AT0 q w0) (hc:Chg w w' (fun k=>q.vl.ownBlock=some k)) (hsm: ∀k,q.vl.ownBlock=some k→k<q.z0) (hbi:b.getD 11 false=false): ∀j u,j≠11→b.getD j false=true→G7 q j u w→G7 q j u w'
 |0,u,_,_,h=>h
 |1,u,_,_,h=>h
 |2,u,_,_,h=>h
 |3,u,_,_,h=>h
 |4,u,_,_,h=>h
 |5,u,_,_,h=>h
 |6,u,_,_,h=>h
 |7,u,_,_,h=>h
 |8,u,_,_,h=>h
 |9,u,_,_,h=>h
 |10,u,_,_,h=>Fresh2.chg h hc hsm
 |11,u,hj,_,h=>absurd rfl hj
 |12,u,_,_,h=>h
 |13,u,_,_,h=>h
 |14,u,_,_,h=>h
 |15,u,_,_,h=>h
 |16,u,_,_,h=>h
 |17,u,_,_,h=>h
 |18,u,_,_,h=>h
 |19,u,_,_,h=>h
 |20,u,_,_,h=>h
 |21,u,_,_,h=>h
 |22,u,_,_,h=>h
 |23,u,_,_,h=>h
 |24,u,_,_,h=>h
 |25,u,_,_,h=>Fresh2.chg h hc hsm
 |26,u,_,_,h=>⟨h.1.chg hc (fun k hk hs=>by
   rcases h.2.2 with h1|⟨m,h1,h2⟩
   ·exact (h0.gv k (h1▸hk)).2.2 hs
   ·rw [hk] at h1;cases h1;have:=hsm _ hs;omega),h.2⟩
 |_+27,u,_,_,h=>trivial
theorem G7.apv {q:AP} {w0 w w':World} {b:Array Bool} (h0:AT0 q w0) (hc:Chg w w' (fun k=>q.vv.ownBlock=some k)) (hsm: ∀k,q.vv.ownBlock=some k→k<q.z0) (hbi:b.getD 26 false=false): ∀j u,j≠26→b.getD j false=true→G7 q j u w→G7 q j u w'
 |0,u,_,_,h=>h
 |1,u,_,_,h=>h
 |2,u,_,_,h=>h
 |3,u,_,_,h=>h
 |4,u,_,_,h=>h
 |5,u,_,_,h=>h
 |6,u,_,_,h=>h
 |7,u,_,_,h=>h
 |8,u,_,_,h=>h
 |9,u,_,_,h=>h
 |10,u,_,_,h=>Fresh2.chg h hc hsm
 |11,u,_,_,h=>⟨h.1.chg hc (fun k hk hs=>by
   rcases h.2.2 with h1|⟨m,h1,h2⟩
   ·exact (h0.gv k hs).2.2 (h1▸hk)
   ·rw [hk] at h1;cases h1;have:=hsm _ hs;omega),h.2⟩
 |12,u,_,_,h=>h
 |13,u,_,_,h=>h
 |14,u,_,_,h=>h
 |15,u,_,_,h=>h
 |16,u,_,_,h=>h
 |17,u,_,_,h=>h
 |18,u,_,_,h=>h
 |19,u,_,_,h=>h
 |20,u,_,_,h=>h
 |21,u,_,_,h=>h
 |22,u,_,_,h=>h
 |23,u,_,_,h=>h
 |24,u,_,_,h=>h
 |25,u,_,_,h=>Fresh2.chg h hc hsm
 |26,u,hj,_,h=>absurd rfl hj
 |_+27,u,_,_,h=>trivial
def G11' (q:AP):Nat→Value→World→Prop
 |0,u,w=>u=q.vl
 |1,u,w=>u=q.va
 |2,u,w=>u= .int .i64 ((q.i:Nat):Int)
 |3,u,w=>u= .pointer (some ⟨q.ba,q.i,none⟩)
 |4,u,w=>u= .string (bs q.a)
 |5,u,w=>u= .string (bs (q.a++ [59]))
 |6,u,w=>Fresh2 w q.z0 u [q.a++ [59]]
 |7,u,w=>Grown w q.B q.z0 q.vl u (q.L++ [q.a++ [59]])
 |8,u,w=>u=q.vv
 |9,u,w=>u=q.vn
 |10,u,w=>u= .int .i64 ((q.i:Nat):Int)
 |11,u,w=>u= .pointer (some ⟨q.bn,q.i,none⟩)
 |12,u,w=>u= .int .i64 ((q.n:Nat):Int)
 |13,u,w=>u= .int .i32 ((q.n:Nat):Int)
 |14,u,w=>u= .string (bs (encL q.n))
 |15,u,w=>Fresh2 w q.z0 u [encL q.n]
 |16,u,w=>Grown w q.B q.z0 q.vv u (q.V++ [encL q.n])
 |_,_,_=>True
def G11 (q:AP) (j:Nat) (v:Value) (w:World):Prop:=G11' q j v w
theorem G11.no {q:AP} {w w':World} (hc:Chg w w' No): ∀j u,G11 q j u w→G11 q j u w'
 |0,u,h=>h
 |1,u,h=>h
 |2,u,h=>h
 |3,u,h=>h
 |4,u,h=>h
 |5,u,h=>h
 |6,u,h=>Fresh2.chg h hc (fun _ h=>h.elim)
 |7,u,h=>Grown.no h hc
 |8,u,h=>h
 |9,u,h=>h
 |10,u,h=>h
 |11,u,h=>h
 |12,u,h=>h
 |13,u,h=>h
 |14,u,h=>h
 |15,u,h=>Fresh2.chg h hc (fun _ h=>h.elim)
 |16,u,h=>Grown.no h hc
 |_+17,u,h=>trivial
theorem G11.apl {q:AP} {w0 w w':World} {b:Array Bool} (h0:AT0 q w0) (hc:Chg w w' (fun k=>q.vl.ownBlock=some k)) (hsm: ∀k,q.vl.ownBlock=some k→k<q.z0) (hbi:b.getD 7 false=false): ∀j u,j≠7→b.getD j false=true→G11 q j u w→G11 q j u w'
 |0,u,_,_,h=>h
 |1,u,_,_,h=>h
 |2,u,_,_,h=>h
 |3,u,_,_,h=>h
 |4,u,_,_,h=>h
 |5,u,_,_,h=>h
 |6,u,_,_,h=>Fresh2.chg h hc hsm
 |7,u,hj,_,h=>absurd rfl hj
 |8,u,_,_,h=>h
 |9,u,_,_,h=>h
 |10,u,_,_,h=>h
 |11,u,_,_,h=>h
 |12,u,_,_,h=>h
 |13,u,_,_,h=>h
 |14,u,_,_,h=>h
 |15,u,_,_,h=>Fresh2.chg h hc hsm
 |16,u,_,_,h=>⟨h.1.chg hc (fun k hk hs=>by
   rcases h.2.2 with h1|⟨m,h1,h2⟩
   ·exact (h0.gv k (h1▸hk)).2.2 hs
   ·rw [hk] at h1;cases h1;have:=hsm _ hs;omega),h.2⟩
 |_+17,u,_,_,h=>trivial
theorem G11.apv {q:AP} {w0 w w':World} {b:Array Bool} (h0:AT0 q w0) (hc:Chg w w' (fun k=>q.vv.ownBlock=some k)) (hsm: ∀k,q.vv.ownBlock=some k→k<q.z0) (hbi:b.getD 16 false=false): ∀j u,j≠16→b.getD j false=true→G11 q j u w→G11 q j u w'
 |0,u,_,_,h=>h
 |1,u,_,_,h=>h
 |2,u,_,_,h=>h
 |3,u,_,_,h=>h
 |4,u,_,_,h=>h
 |5,u,_,_,h=>h
 |6,u,_,_,h=>Fresh2.chg h hc hsm
 |7,u,_,_,h=>⟨h.1.chg hc (fun k hk hs=>by
   rcases h.2.2 with h1|⟨m,h1,h2⟩
   ·exact (h0.gv k hs).2.2 (h1▸hk)
   ·rw [hk] at h1;cases h1;have:=hsm _ hs;omega),h.2⟩
 |8,u,_,_,h=>h
 |9,u,_,_,h=>h
 |10,u,_,_,h=>h
 |11,u,_,_,h=>h
 |12,u,_,_,h=>h
 |13,u,_,_,h=>h
 |14,u,_,_,h=>h
 |15,u,_,_,h=>Fresh2.chg h hc hsm
 |16,u,hj,_,h=>absurd rfl hj
 |_+17,u,_,_,h=>trivial
end Go.Proofs.YtbcmiijollpgeaaGreat.T
