import Derived.Test.YtbcmiijollpgeaaGreatWF
set_option maxHeartbeats 32000000
set_option maxRecDepth 100000
set_option linter.unusedVariables false
set_option linter.unusedSimpArgs false
namespace Go.Proofs.YtbcmiijollpgeaaGreat.T
open Go Go.Z Go.Proofs
def nm (i:Nat):List UInt8:=(nmL 18).getD i []
def bestN (p:List UInt8):Nat→Option Nat
 |0=>none
 |i+1=>if (beginsN p (nm i) && (match bestN p i with|none=>true|some j=>decide ((nm j).length<(nm i).length)))=true then some i else bestN p i
theorem bestN_lt (p:List UInt8): ∀i j,bestN p i=some j→j<i
 |0,j,h=>by simp [bestN] at h
 |i+1,j,h=>by
  have hg: ∀b:Bool,(if b=true then some i else bestN p i)=some j→j<i+1:=fun b hb=>by
   cases b
   ·rw [if_neg Bool.false_ne_true] at hb;have:=bestN_lt p i j hb;omega
   ·rw [if_pos rfl] at hb;cases hb;omega
  exact hg _ h
def bvI:Option Nat→Int
 |none=> -1
 |some j=>(j:Nat)
theorem best_none {p:List UInt8} {i:Nat} (h:bestN p i=none) (hb:beginsN p (nm i)=true):bestN p (i+1)=some i:=by
 unfold bestN;rw [h,hb];rfl
theorem best_same {p:List UInt8} {i:Nat} (hb:beginsN p (nm i)=false):bestN p (i+1)=bestN p i:=by
 conv=>lhs;unfold bestN
 rw [hb];simp
theorem best_more {p:List UInt8} {i j:Nat} (h:bestN p i=some j) (hb:beginsN p (nm i)=true) (hl:(nm j).length<(nm i).length):bestN p (i+1)=some i:=by
 unfold bestN;rw [h,hb];simp [hl]
theorem best_less {p:List UInt8} {i j:Nat} (h:bestN p i=some j) (hl: ¬(nm j).length<(nm i).length):bestN p (i+1)=some j:=by
 conv=>lhs;unfold bestN
 rw [h];simp [hl]
structure Esc (p v:List UInt8):Prop where
 l1:2≤p.length
 l2:p.length≤10
 b0:Z.byteL p 0≠35
 last:Z.byteL p (p.length - 1)=59
 bg: ∀x∈nmL 18,p.isPrefixOf x=true→x=p
 best: ∃j,j<46∧bestN p 46=some j∧(nm j).length=p.length∧(vaL 18).getD j []=v
theorem RdS.cellK {w:World} {t sz b o m c:Nat} {cs:List Value} (h:RdS w t sz (.slice (some ⟨b,o,none⟩) m c) m cs) (hm:0<m) {j:Nat} {u:Value} (hj:cs[j]? =some u):w.cell? ⟨b,o+j,none⟩=some u:=by
 obtain ⟨b',o',c',hv,_,hc⟩:=RdS.some h hm
 cases hv
 exact hc j u hj
theorem nmA_len: ∀x∈nmL 18,x.length≤100:=by decide+kernel
theorem nmL18:(nmL 18).length=46:=by rw [nmL_len]
theorem vaL18:(vaL 18).length=46:=by rw [vaL_len]
theorem nm_mem {i:Nat} (h:i<46):nm i∈nmL 18:=getD_mem _ i (by rw [nmL18];exact h)
theorem take_pre {p r x:List UInt8} (h:(p++r).take x.length=x) (hl:p.length≤x.length):p.isPrefixOf x=true:=by
 rw [List.isPrefixOf_iff_prefix]
 rw [List.take_append,List.take_of_length_le hl] at h
 exact ⟨_,h⟩
theorem Esc.begins {p v:List UInt8} (h:Esc p v) (r:List UInt8) {i:Nat} (hi:i<46):beginsN (p++r) (nm i)=beginsN p (nm i):=by
 unfold beginsN
 congr 1
 rcases Nat.lt_or_ge (nm i).length p.length with hl|hl
 ·rw [List.take_append_of_le_length (by omega)]
 ·apply propext
  constructor
  ·intro hx
   rw [h.bg _ (nm_mem hi) (take_pre hx hl),List.take_length]
  ·intro hx
   have hl2:(nm i).length=p.length:=by have:=congrArg List.length hx;rw [List.length_take] at this;omega
   rw [hl2,List.take_append_of_le_length (Nat.le_refl _),←hl2];exact hx
theorem ref0_calls {w:World} (c:UInt8) (r:List UInt8) (a:Bool) (hc:c≠38) (hr:r.length≤1000000000000 - 1):Calls Tryz.prog 110 [.string (bs (c::r)),.bool a].toArray w fun e w'=>e= .returned (.tuple #[.string ⟨#[]⟩,.int .i64 0])∧w'=w:=by
 have hbig:big=1000000000000:=rfl
 obtain ⟨s,hs⟩: ∃s,s=c::r:=⟨_,rfl⟩
 have hl:s.length=r.length+1:=by rw [hs];simp
 have c0: ¬Z.byteL s 0=38:=by
  rw [hs]
  show¬c.toNat=38
  intro h
  exact hc (by rw [←UInt8.toNat_inj];exact h)
 rw [←hs]
 refine zCz 107 Tryz.func110 ?_
 by_cases h2:s.length<2
 ·refine zz ?_
  exact zk_ret2 (.inr rfl) rfl rfl rfl ⟨rfl,rfl⟩
 ·refine zz ?_
  exact zk_ret2 (.inr rfl) rfl rfl rfl ⟨rfl,rfl⟩
theorem ref13_calls {w:World} (r:List UInt8) (a:Bool) (hr:r.length≤1000000000):Calls Tryz.prog 110 [.string (bs (38::35::49::51::59::r)),.bool a].toArray w fun e w'=>e= .returned (.tuple #[.string (bs [13]),.int .i64 5])∧w'=w:=by
 obtain ⟨s,hs⟩: ∃s,s=38::35::49::51::59::r:=⟨_,rfl⟩
 have hl:s.length=r.length+5:=by rw [hs];simp
 have c0:Z.byteL s 0=38:=by rw [hs];rfl
 have c1:Z.byteL s (0+1)=35:=by rw [hs];rfl
 have hn:=number_calls (w:=w) r hr
 rw [←hs] at hn
 rw [←hs]
 refine zCz 107 Tryz.func110 ?_
 refine zz ?_
 refine zCp rfl hn ?_
 refine zz ?_
 exact zk_ret2 (.inr rfl) rfl rfl rfl ⟨rfl,rfl⟩
theorem refE_calls {w:World} {p v:List UInt8} (h:Esc p v) (r:List UInt8) (a:Bool) (hr:r.length≤1000000000):Calls Tryz.prog 110 [.string (bs (38::(p++r))),.bool a].toArray w fun e w'=>e= .returned (.tuple #[.string (bs v),.int .i64 ((p.length+1:Nat):Int)])∧Chg w w' No:=by
 have hbig:big=1000000000000:=rfl
 have l1:=h.l1
 have l2:=h.l2
 obtain ⟨s,hs⟩: ∃s,s=38::(p++r):=⟨_,rfl⟩
 have hl:s.length=p.length+r.length+1:=by rw [hs];simp
 have c0:Z.byteL s 0=38:=by rw [hs];rfl
 have c1: ¬Z.byteL s (0+1)=35:=by
  rw [hs]
  have:=h.b0
  obtain ⟨x,p',rfl⟩: ∃x p',p=x::p':=by
   cases p with
   |nil=>simp at l1
   |cons x p'=>exact ⟨x,p',rfl⟩
  exact this
 have hd1:s.drop 1=p++r:=by rw [hs];rfl
 have cl:Z.byteL s p.length=59:=by
  have:=h.last
  rw [hs]
  unfold Z.byteL at this ⊢
  obtain ⟨k,hk⟩: ∃k,p.length=k+1:=⟨p.length - 1,by omega⟩
  rw [hk] at this ⊢
  rw [Nat.add_sub_cancel] at this
  rw [←this]
  simp only [List.getD_eq_getElem?_getD,List.getElem?_cons_succ]
  rw [List.getElem?_append_left (by omega)]
 rw [←hs]
 refine zCz 107 Tryz.func110 ?_
 refine zz ?_
 refine zCl rfl allN_calls ?_
 rintro _ w1 ⟨⟨vl,vv,rfl,hL,hV⟩,hC⟩
 refine ⟨_,rfl,?_⟩
 obtain ⟨Al,cl',rfl,_⟩:=hL.rd.form
 obtain ⟨Av,cv',rfl,_⟩:=hV.rd.form
 obtain ⟨_,bL,oL,_,hvL,hmL,hcL⟩: ∃u:Unit,∃b o c,Value.slice Al 46 cl'= .slice (some ⟨b,o,none⟩) 46 c∧46≤c∧ ∀k u,(cellsS (nmL 18))[k]? =some u→w1.cell? ⟨b,o+k,none⟩=some u:=by
  obtain ⟨b,o,c',h1,h2,h3⟩:=hL.rd.some (by omega)
  exact ⟨(),b,o,c',h1,h2,h3⟩
 cases hvL
 obtain ⟨bV,oV,_,hvV,_,hcV⟩:=hV.rd.some (by omega)
 cases hvV
 refine zz ?_
 refine zc_loopW (ι:=Nat) (fun i u=> [(0,.string (bs s)),(1,.bool a),(6,.slice (some ⟨bL,oL,none⟩) 46 cl'),(7,.slice (some ⟨bV,oV,none⟩) 46 cv'),(8,.int .i64 (bvI (bestN p i))),(9,.int .i64 (i:Nat))]) (fun i u=>i≤46∧Chg w1 u No) (fun i u=>46 - i) 0 ⟨Nat.zero_le _,Chg.refl _ _⟩ ⟨rfl,rfl,rfl,rfl,rfl,rfl,trivial⟩ ?_
 rintro i u ⟨hi,hCu⟩
 by_cases hlt:i<46
 ·have hci: ∀v,Chg w1 v No→v.cell? ⟨bL,oL+i*1,none⟩=some (.string (bs (nm i))):=fun v hv=>by
   rw [Nat.mul_one];exact RdS.cellK (hL.no hv).rd (by omega) (cellsS_at _ i (by rw [nmL18];exact hlt))
  have hbeg:=h.begins r hlt
  have hln:=nmA_len _ (nm_mem hlt)
  have hcut:(s.drop 1).take (s.length - 1)=p++r:=by rw [hd1,List.take_of_length_le (by rw [←hd1,List.length_drop];omega)]
  rcases hb:bestN p i with _|j
  ·rw [show bvI none= -1 from rfl]
   refine zz ?_
   refine zc_draw [] (fun w'=>w'.cell? ⟨bL,oL+i*1,none⟩=some (.string (bs (nm i)))) (.take 0 (.take 1 (.take 2 (.take 3 (.take 4 (.take 5 (.all1 6 (.take 7 (.take 8 (.take 9 (.take 10 (.take 11 (.take 12 (.take 13 (.take 14 (.take 15 (.take 16 (.take 17 (.take 18 (.take 19 (.take 20 (.take 21 (.take 22 (.take 23 (.fin))))))))))))))))))))))))) (by rfl) (by kernel_rfl) (by kernel_rfl) (fun u1 hC1 _=>⟨?_,?_⟩)
   ·exact hci u1 (hCu.no hC1)
   refine ztP rfl rfl (zRd rfl rfl (fun _ _=>r_cutN 1 s.length rfl rfl rfl rfl rfl (by omega) (Nat.le_refl _)) ?_)
   rw [hcut]
   refine zz ?_
   refine zs_call rfl (want_L rfl) rfl (by decide) rfl (begins_calls (p++r) (nm i) (by rw [List.length_append];omega) (by omega)) ?_
   rintro _ u2 ⟨rfl,hu2⟩
   obtain rfl:=hu2.symm
   refine ⟨_,rfl,hci u1 (hCu.no hC1),?_⟩
   rw [hbeg]
   rcases hbb:beginsN p (nm i)
   ·refine zz ?_
    exact zk_loopW (i+1) ⟨by omega,hCu.no hC1⟩ (by omega) ⟨rfl,rfl,rfl,rfl,by rw [best_same hbb,hb];rfl,rfl,trivial⟩
   ·refine zz ?_
    exact zk_loopW (i+1) ⟨by omega,hCu.no hC1⟩ (by omega) ⟨rfl,rfl,rfl,rfl,by rw [best_none hb hbb];rfl,rfl,trivial⟩
  ·have hj:j<i:=bestN_lt p i j hb
   have hcj: ∀v,Chg w1 v No→v.cell? ⟨bL,oL+j*1,none⟩=some (.string (bs (nm j))):=fun v hv=>by
    rw [Nat.mul_one];exact RdS.cellK (hL.no hv).rd (by omega) (cellsS_at _ j (by rw [nmL18];omega))
   have hlj:=nmA_len _ (nm_mem (i:=j) (by omega))
   rw [show bvI (some j)=((j:Nat):Int) from rfl]
   refine zz ?_
   refine zc_draw [] (fun w'=>w'.cell? ⟨bL,oL+i*1,none⟩=some (.string (bs (nm i)))∧w'.cell? ⟨bL,oL+j*1,none⟩=some (.string (bs (nm j)))) (.take 0 (.take 1 (.take 2 (.take 3 (.take 4 (.take 5 (.all1 6 (.take 7 (.take 8 (.take 9 (.take 10 (.take 11 (.take 12 (.take 13 (.take 14 (.take 15 (.take 16 (.take 17 (.take 18 (.take 19 (.take 20 (.take 21 (.take 22 (.take 23 (.fin))))))))))))))))))))))))) (by rfl) (by kernel_rfl) (by kernel_rfl) (fun u1 hC1 _=>⟨?_,?_⟩)
   ·exact ⟨hci u1 (hCu.no hC1),hcj u1 (hCu.no hC1)⟩
   refine ztP rfl rfl (zRd rfl rfl (fun _ _=>r_cutN 1 s.length rfl rfl rfl rfl rfl (by omega) (Nat.le_refl _)) ?_)
   rw [hcut]
   refine zz ?_
   refine zs_call rfl (want_L rfl) rfl (by decide) rfl (begins_calls (p++r) (nm i) (by rw [List.length_append];omega) (by omega)) ?_
   rintro _ u2 ⟨rfl,hu2⟩
   obtain rfl:=hu2.symm
   refine ⟨_,rfl,⟨hci u1 (hCu.no hC1),hcj u1 (hCu.no hC1)⟩,?_⟩
   rw [hbeg]
   rcases hbb:beginsN p (nm i)
   ·refine zz ?_
    exact zk_loopW (i+1) ⟨by omega,hCu.no hC1⟩ (by omega) ⟨rfl,rfl,rfl,rfl,by rw [best_same hbb,hb];rfl,rfl,trivial⟩
   ·by_cases hlen:(nm j).length<(nm i).length
    ·refine zz ?_
     exact zk_loopW (i+1) ⟨by omega,hCu.no hC1⟩ (by omega) ⟨rfl,rfl,rfl,rfl,by rw [best_more hb hbb hlen];rfl,rfl,trivial⟩
    ·refine zz ?_
     exact zk_loopW (i+1) ⟨by omega,hCu.no hC1⟩ (by omega) ⟨rfl,rfl,rfl,rfl,by rw [best_less hb hlen];rfl,rfl,trivial⟩
 ·obtain rfl:i=46:=by omega
  obtain ⟨j,hj,hbj,hlj,hvj⟩:=h.best
  rw [hbj,show bvI (some j)=((j:Nat):Int) from rfl]
  have hcj:u.cell? ⟨bL,oL+j*1,none⟩=some (.string (bs (nm j))):=by
   rw [Nat.mul_one];exact RdS.cellK (hL.no hCu).rd (by omega) (cellsS_at _ j (by rw [nmL18];omega))
  have hcv:u.cell? ⟨bV,oV+j*1,none⟩=some (.string (bs v)):=by
   rw [Nat.mul_one,←hvj];exact RdS.cellK (hV.no hCu).rd (by omega) (cellsS_at _ j (by rw [vaL18];omega))
  cases a
  ·refine zz ?_
   exact zk_ret2 (.inr rfl) rfl rfl rfl ⟨by rw [hlj,Int.natCast_add,Int.add_comm];rfl,hC.no hCu⟩
  ·refine zz ?_
   refine z_idxC p.length (want_L rfl) (by decide) rfl rfl (by omega) (by omega) ?_
   rw [cl]
   refine zz ?_
   exact zk_ret2 (.inr rfl) rfl rfl rfl ⟨by rw [hlj,Int.natCast_add,Int.add_comm];rfl,hC.no hCu⟩
theorem esc_amp:Esc [97,109,112,59] [38]:=⟨by decide,by decide,by decide,by decide,by decide+kernel,⟨3,by decide+kernel⟩⟩
theorem esc_lt:Esc [108,116,59] [60]:=⟨by decide,by decide,by decide,by decide,by decide+kernel,⟨9,by decide+kernel⟩⟩
theorem esc_gt:Esc [103,116,59] [62]:=⟨by decide,by decide,by decide,by decide,by decide+kernel,⟨7,by decide+kernel⟩⟩
theorem esc_quo:Esc [113,117,111,116,59] [34]:=⟨by decide,by decide,by decide,by decide,by decide+kernel,⟨17,by decide+kernel⟩⟩
theorem esc_nbs:Esc [110,98,115,112,59] [194,160]:=⟨by decide,by decide,by decide,by decide,by decide+kernel,⟨11,by decide+kernel⟩⟩
theorem byte_c {c:UInt8} {r:List UInt8} {k:Nat} (hk:k<256) (h:byteL (c::r) 0=k):c=UInt8.ofNat k:=by
 have h1:c.toNat=k:=h
 rw [←UInt8.toNat_inj,h1]
 simp [Nat.mod_eq_of_lt hk]
theorem safe_step (v:Bool) (l:List UInt8) (h:l≠ []): ∃e n,1≤n∧n≤l.length∧safeN v l=e++safeN v (l.drop n)∧e≠ []∧((∃c,e= [c]∧c≠38∧n=1∧l.take n= [c])∨(e= [38,35,49,51,59]∧l.take n= [13])∨(∃p,e=38::p∧Esc p (l.take n))):=by
 obtain ⟨c,r,rfl⟩: ∃c r,l=c::r:=by
  cases l with
  |nil=>exact absurd rfl h
  |cons c r=>exact ⟨c,r,rfl⟩
 have hlen:1≤(c::r).length:=by simp
 by_cases he:escS v (c::r)= []
 ·refine ⟨[c],1,Nat.le_refl _,hlen,safe_as v _ h he,by simp,.inl ⟨c,rfl,fun hc=> ?_,rfl,rfl⟩⟩
  subst hc
  exact absurd he (by unfold escS;rw [if_pos (by rfl)];decide)
 have h1: ∀e k,k<256→escS v (c::r)=e→e≠ []→e≠nbs→byteL (c::r) 0=k→safeN v (c::r)=e++safeN v ((c::r).drop 1)∧(c::r).take 1= [UInt8.ofNat k]:=fun e k hk ee h0 hn hb=>by
  refine ⟨by rw [safe_esc v _ h he (fun hq=>absurd (ee▸hq) hn),ee,if_neg hn],?_⟩
  rw [List.take_succ_cons,List.take_zero,byte_c hk hb]
 by_cases q1:byteL (c::r) 0=38
 ·obtain ⟨a,b⟩:=h1 amp 38 (by decide) (by unfold escS;rw [if_pos q1]) (by decide) (by decide) q1
  exact ⟨_,1,Nat.le_refl _,hlen,a,by decide,.inr (.inr ⟨_,rfl,by rw [b];exact esc_amp⟩)⟩
 by_cases q2:byteL (c::r) 0=60
 ·obtain ⟨a,b⟩:=h1 lt4 60 (by decide) (by unfold escS;rw [if_neg q1,if_pos q2]) (by decide) (by decide) q2
  exact ⟨_,1,Nat.le_refl _,hlen,a,by decide,.inr (.inr ⟨_,rfl,by rw [b];exact esc_lt⟩)⟩
 by_cases q3:byteL (c::r) 0=62
 ·obtain ⟨a,b⟩:=h1 gt4 62 (by decide) (by unfold escS;rw [if_neg q1,if_neg q2,if_pos q3]) (by decide) (by decide) q3
  exact ⟨_,1,Nat.le_refl _,hlen,a,by decide,.inr (.inr ⟨_,rfl,by rw [b];exact esc_gt⟩)⟩
 by_cases q4:byteL (c::r) 0=13
 ·obtain ⟨a,b⟩:=h1 cr5 13 (by decide) (by unfold escS;rw [if_neg q1,if_neg q2,if_neg q3,if_pos q4]) (by decide) (by decide) q4
  exact ⟨_,1,Nat.le_refl _,hlen,a,by decide,.inr (.inl ⟨rfl,b⟩)⟩
 by_cases q5:byteL (c::r) 0=34∧v=true
 ·obtain ⟨a,b⟩:=h1 quo 34 (by decide) (by unfold escS;rw [if_neg q1,if_neg q2,if_neg q3,if_neg q4,if_pos q5]) (by decide) (by decide) q5.1
  exact ⟨_,1,Nat.le_refl _,hlen,a,by decide,.inr (.inr ⟨_,rfl,by rw [b];exact esc_quo⟩)⟩
 have e6:escS v (c::r)=if byteL (c::r) 0=194∧byteL (c::r) 1=160 then nbs else []:=by
  unfold escS;rw [if_neg q1,if_neg q2,if_neg q3,if_neg q4,if_neg q5]
 by_cases q6:byteL (c::r) 0=194∧byteL (c::r) 1=160
 ·rw [if_pos q6] at e6
  obtain ⟨d,r',rfl⟩: ∃d r',r=d::r':=by
   cases r with
   |nil=>exact absurd q6.2 (by show¬(0=160);decide)
   |cons d r'=>exact ⟨d,r',rfl⟩
  have hd:byteL (d::r') 0=160:=q6.2
  refine ⟨nbs,2,by decide,by simp,?_,by decide,.inr (.inr ⟨_,rfl,?_⟩)⟩
  ·rw [safe_esc v _ h he (fun _=>by simp),e6,if_pos rfl]
  ·rw [List.take_succ_cons,List.take_succ_cons,List.take_zero,byte_c (by decide) q6.1,byte_c (by decide) hd]
   exact esc_nbs
 ·rw [if_neg q6] at e6
  exact absurd e6 he
theorem expand_calls {w:World} (v:Bool) (l:List UInt8) (a:Bool) (hl:(safeN v l).length≤1000000000) (hll:l.length≤1000000000):Calls Tryz.prog 78 [.string (bs (safeN v l)),.bool a].toArray w fun e w'=>e= .returned (.string (bs l))∧Chg w w' No:=by
 have hbig:big=1000000000000:=rfl
 obtain ⟨s,hs⟩: ∃s,s=safeN v l:=⟨_,rfl⟩
 rw [←hs] at hl ⊢
 refine zCz 35 Tryz.func78 ?_
 refine zz ?_
 refine zc_loopW (ι:=Nat×List UInt8×List UInt8) (fun q u=> [(0,.string (bs s)),(1,.bool a),(5,.string (bs q.2.1)),(6,.int .i64 (q.1:Nat))]) (fun q u=>q.1≤s.length∧s.drop q.1=safeN v q.2.2∧q.2.1++q.2.2=l∧Chg w u No) (fun q u=>q.2.2.length) (0,[],l) ⟨Nat.zero_le _,hs,rfl,Chg.refl _ _⟩ ⟨rfl,rfl,rfl,rfl,trivial⟩ ?_
 rintro ⟨i,out,r⟩ u ⟨hi,hd,hor,hC⟩
 dsimp only at hi hd hor ⊢
 have hlo:out.length+r.length=l.length:=by rw [←hor,List.length_append]
 have hsd:s.length - i=(safeN v r).length:=by rw [←hd,List.length_drop]
 by_cases hr:r= []
 ·subst hr
  have:(safeN v []).length=0:=rfl
  obtain rfl:i=s.length:=by omega
  rw [List.append_nil] at hor
  subst hor
  refine zz ?_
  exact zk_ret1 (.inr rfl) rfl rfl ⟨rfl,hC⟩
 obtain ⟨e,n,h1,h2,h3,he0,h4⟩:=safe_step v r hr
 have hel:1≤e.length:=by
  cases e with
  |nil=>exact absurd rfl he0
  |cons _ _=>simp
 have h3l:(safeN v r).length=e.length+(safeN v (r.drop n)).length:=by rw [h3,List.length_append]
 have hd2:s.drop (i+e.length)=safeN v (r.drop n):=by rw [←List.drop_drop,hd,h3,List.drop_left]
 have hcut:(s.drop i).take (s.length - i)=e++safeN v (r.drop n):=by rw [List.take_of_length_le (by rw [List.length_drop];omega),hd,h3]
 have hor2:(out++r.take n)++r.drop n=l:=by rw [List.append_assoc,List.take_append_drop,hor]
 have htl:(r.take n).length=n:=by rw [List.length_take];omega
 refine zz ?_
 refine z_cutN i s.length (want_L rfl) (by decide) rfl rfl rfl rfl rfl (by omega) (Nat.le_refl _) ?_
 rw [hcut]
 refine zP rfl ?_
 rcases h4 with ⟨c,rfl,hc,rfl,ht⟩|⟨rfl,ht⟩|⟨p,rfl,hp⟩
 ·refine zCp rfl (ref0_calls c (safeN v (r.drop 1)) a hc (by simp only [List.length_cons,List.length_nil] at h3l;omega)) ?_
  have hc1:(s.drop i).take (i+1 - i)=r.take 1:=by
   rw [hd,h3,show i+1 - i=1 by omega,ht];rfl
  simp only [List.length_cons,List.length_nil] at h3l hd2
  refine zz ?_
  refine z_cutN i (i+1) (want_L rfl) (by decide) rfl rfl rfl rfl rfl (by omega) (by omega) ?_
  rw [hc1]
  refine zz ?_
  exact zk_loopW (i+1,out++r.take 1,r.drop 1) ⟨by omega,hd2,hor2,hC⟩ (by show (r.drop 1).length<r.length;rw [List.length_drop];omega) ⟨rfl,rfl,rfl,get_int rfl (by simp),trivial⟩
 ·simp only [List.length_cons,List.length_nil] at h3l hd2
  refine zCp rfl (ref13_calls (safeN v (r.drop n)) a (by omega)) ?_
  rw [←ht]
  refine zz ?_
  exact zk_loopW (i+5,out++r.take n,r.drop n) ⟨by omega,hd2,hor2,hC⟩ (by show (r.drop n).length<r.length;rw [List.length_drop];omega) ⟨rfl,rfl,rfl,get_int rfl (by simp),trivial⟩
 ·simp only [List.length_cons] at h3l hd2
  have hpl:=hp.l2
  refine zCr rfl (refE_calls hp (safeN v (r.drop n)) a (by omega)) fun u1 hC1=> ?_
  refine zz ?_
  exact zk_loopW (i+(p.length+1),out++r.take n,r.drop n) ⟨by omega,hd2,hor2,hC.no hC1⟩ (by show (r.drop n).length<r.length;rw [List.length_drop];omega) ⟨rfl,rfl,rfl,get_int rfl (by simp),trivial⟩
theorem zbyte_drop {s r:List UInt8} {c:UInt8} {k:Nat} (h:s.drop k=c::r):Z.byteL s k=c.toNat:=by
 unfold Z.byteL
 have h1:(s.drop k)[0]? =some c:=by rw [h];rfl
 rw [List.getElem?_drop,Nat.add_zero] at h1
 rw [List.getD_eq_getElem?_getD,h1];rfl
theorem drop_lt {s r:List UInt8} {k:Nat} (h:s.drop k=r) (hr:r≠ []):s.length=k+r.length:=by
 have h1:=congrArg List.length h
 rw [List.length_drop] at h1
 have h2:0<r.length:=List.length_pos_iff.mpr hr
 omega
theorem drop_app {s a r:List UInt8} {k:Nat} (h:s.drop k=a++r):s.drop (k+a.length)=r:=by
 rw [←List.drop_drop,h,List.drop_left]
theorem drop_one {s r:List UInt8} {c:UInt8} {k:Nat} (h:s.drop k=c::r):s.drop (k+1)=r:=by
 rw [←List.drop_drop,h];rfl
def lowC (c:UInt8):Prop:=97≤c.toNat∧c.toNat≤122∨48≤c.toNat∧c.toNat≤57
instance (c:UInt8):Decidable (lowC c):=by unfold lowC;infer_instance
theorem zbyte_app {s a r:List UInt8} {k:Nat} (h:s.drop k=a++r) (j:Nat) (hj:j<a.length):Z.byteL s (k+j)=(a.getD j 0).toNat:=by
 unfold Z.byteL
 have h1:(s.drop k)[j]? =a[j]? :=by rw [h,List.getElem?_append_left hj]
 rw [List.getElem?_drop] at h1
 rw [List.getD_eq_getElem?_getD,h1,←List.getD_eq_getElem?_getD]
theorem getB_mem (a:List UInt8) (j:Nat) (h:j<a.length):a.getD j 0∈a:=by
 rw [List.getD_eq_getElem?_getD,List.getElem?_eq_getElem h]
 exact List.getElem_mem h
theorem low_byte {s a r:List UInt8} {k:Nat} (h:s.drop k=a++r) (ha: ∀c∈a,lowC c) (i:Nat) (h1:k≤i) (h2:i<k+a.length):97≤Z.byteL s i∧Z.byteL s i≤122∨48≤Z.byteL s i∧Z.byteL s i≤57:=by
 have:=zbyte_app h (i - k) (by omega)
 rw [show k+(i - k)=i by omega] at this
 rw [this]
 exact ha _ (getB_mem a (i - k) (by omega))
theorem cut_app {s a r:List UInt8} {k:Nat} (h:s.drop k=a++r):(s.drop k).take (k+a.length - k)=a:=by
 rw [h,show k+a.length - k=a.length by omega,List.take_left]
theorem low_up {a:List UInt8} (ha: ∀c∈a,lowC c): ∀j,j<a.length→ ¬(65≤(a.getD j 0).toNat∧(a.getD j 0).toNat≤90):=fun j hj=>by
 have:=ha _ (getB_mem a j hj)
 unfold lowC at this
 omega
theorem low_nul {a:List UInt8} (ha: ∀c∈a,lowC c):0∉a:=fun h=>absurd (ha 0 h) (by decide)
theorem esc_in (v:Bool) (s:List UInt8):34∉escS v s∧60∉escS v s:=by
 unfold escS
 repeat' split
 all_goals decide
theorem safeS_in (v:Bool): ∀(l:List UInt8) (q:Bool),(v=true→34∉safeS v q l)∧60∉safeS v q l
 | [],q=>by cases q<;>simp [safeS]
 |c::r,true=>by have:=safeS_in v r false;simpa only [safeS] using this
 |c::r,false=>by
  have h1:=safeS_in v r false
  have h2:=safeS_in v r (decide (escS v (c::r)=nbs))
  have h3:=esc_in v (c::r)
  simp only [safeS]
  split
  ·rename_i he
   have hc:c≠60:=fun hc=>by subst hc;exact absurd he (by unfold escS;rw [if_neg (by show¬(60=38);decide),if_pos (by rfl)];decide)
   have hq:v=true→c≠34:=fun hv hc=>by
    subst hc;subst hv
    exact absurd he (by unfold escS;rw [if_neg (by show¬(34=38);decide),if_neg (by show¬(34=60);decide),if_neg (by show¬(34=62);decide),if_neg (by show¬(34=13);decide),if_pos ⟨rfl,rfl⟩];decide)
   exact ⟨fun hv hm=>by
    rcases List.mem_cons.mp hm with hm|hm
    ·exact hq hv hm.symm
    ·exact h1.1 hv hm,fun hm=>by
    rcases List.mem_cons.mp hm with hm|hm
    ·exact hc hm.symm
    ·exact h1.2 hm⟩
  ·exact ⟨fun hv hm=>by
    rcases List.mem_append.mp hm with hm|hm
    ·exact h3.1 hm
    ·exact h2.1 hv hm,fun hm=>by
    rcases List.mem_append.mp hm with hm|hm
    ·exact h3.2 hm
    ·exact h2.2 hm⟩
theorem safe_q (l:List UInt8):34∉safeN true l:=(safeS_in true l false).1 rfl
theorem safe_lt (v:Bool) (l:List UInt8):60∉safeN v l:=(safeS_in v l false).2
theorem mem_of_take {s a r:List UInt8} {k j:Nat} {c:UInt8} (h:s.drop k=a++r) (hk:k≤j) (hj:j<k+a.length) (ht:(s.drop j).take 1= [c]):c∈a:=by
 have h1:((s.drop j).take 1)[0]? =some c:=by rw [ht];rfl
 rw [List.getElem?_take_of_lt (by decide),List.getElem?_drop,Nat.add_zero] at h1
 have h2:(s.drop k)[j - k]? =a[j - k]? :=by rw [h,List.getElem?_append_left (by omega)]
 rw [List.getElem?_drop,show k+(j - k)=j by omega,h1] at h2
 exact List.mem_of_getElem? h2.symm
theorem attr_calls {w:World} (s nm v r:List UInt8) (p:Nat) (hs:s.drop p=nm++61::34::(safeN true v++34::r)) (hn0:nm≠ []) (hn: ∀c∈nm,lowC c) (h0:0∉v) (hl:s.length≤1000000000) (hvl:v.length≤1000000000):
  Calls Tryz.prog 108 [.string (bs s),.int .i64 (p:Nat)].toArray w fun e w'=>e= .returned (.tuple #[.agg [.string (bs nm),.string (bs v)].toArray,.int .i64 ((p+nm.length+(safeN true v).length+3:Nat):Int)])∧Chg w w' No:=by
 have hbig:big=1000000000000:=rfl
 have hsl:=drop_lt hs (by simp)
 simp only [List.length_append,List.length_cons] at hsl
 have hnl:1≤nm.length:=List.length_pos_iff.mpr hn0
 have d1:=drop_app hs
 have d2:=drop_one d1
 have d3:=drop_one d2
 have d4:=drop_app d3
 have b1:Z.byteL s (p+nm.length)=61:=zbyte_drop d1
 have b2:Z.byteL s (p+nm.length+1)=34:=zbyte_drop d2
 refine zCz 145 Tryz.func108 ?_
 refine zS (zR ?_)
 refine zAl (fun w1 b4 hN1=> ?_)
 refine zz ?_
 refine zc_loopW (ι:=Nat) (fun i u=> [(0,.string (bs s)),(1,.int .i64 (p:Nat)),(4,.pointer (some ⟨b4,0,none⟩)),(6,.int .i64 (i:Nat))]) (fun i u=>p+1≤i∧i≤p+nm.length∧u=w1) (fun i u=>p+nm.length - i) (p+1) ⟨Nat.le_refl _,by omega,rfl⟩ ⟨rfl,rfl,rfl,get_int rfl (by simp),trivial⟩ ?_
 rintro i u ⟨hi1,hi2,hu⟩
 obtain rfl:=hu.symm
 by_cases hlt:i<p+nm.length
 ·have hb:=low_byte hs hn i (by omega) hlt
  refine zz ?_
  refine zCp rfl (blankR_calls (Z.byteL s i)) ?_
  rw [show blankN (Z.byteL s i)=false from decide_eq_false (by omega)]
  refine zz ?_
  exact zk_loopW (i+1) ⟨by omega,by omega,rfl⟩ (by omega) ⟨rfl,rfl,rfl,get_int rfl (by simp),trivial⟩
 obtain rfl:i=p+nm.length:=by omega
 refine zz ?_
 refine zCp rfl (blankR_calls (Z.byteL s (p+nm.length))) ?_
 rw [show blankN (Z.byteL s (p+nm.length))=false from decide_eq_false (by omega)]
 refine zz ?_
 refine z_cutN p (p+nm.length) (want_L rfl) (by decide) rfl rfl rfl rfl rfl (by omega) (by omega) ?_
 rw [cut_app hs]
 refine zCr rfl (fold_calls nm (by omega) (low_up hn)) fun u2 hC2=> ?_
 refine zCp rfl (clear_calls nm (by omega) (low_nul hn)) ?_
 refine z_buildE #[.string (bs nm),.string (bs [])] (want_L rfl) (by decide) rfl (by kernel_rfl) ?_
 refine zAl (fun w4 b7 hN7=> ?_)
 have hb7:Blk w4 b7 45 [.string (bs []),.string (bs [])]:=hN7.blk
 refine z_store (want_L rfl) rfl rfl rfl (by assumption) (by first|exact Nat.le_refl _|simp [Value.cells]) (by simp [Value.cells,Value.oneCell']) (fun w5 hU5=> ?_)
 have hb75:Blk w5 b7 45 [.string (bs nm),.string (bs [])]:=hU5.blk
 have hX5:Chg u2 w5 No:=hN7.chg.upd hU5 (hN7.ge (Chg.refl _ No))
 have hb4:Blk w5 b4 45 [.string (bs []),.string (bs [])]:=(hN1.blk.no hC2).no hX5
 have hC5:Chg w w5 No:=(hN1.chg.no hC2).no hX5
 have hne:b4≠b7:=by have h1:=hN7.at_;have h2:=(hN1.blk.no hC2).lt;omega
 refine zz ?_
 refine zCp rfl (blanks_calls s (p+nm.length) (p+nm.length) (by omega) (Nat.le_refl _) (by omega) (fun j h1 h2=>absurd h1 (by omega)) (fun _=>by rw [b1];decide)) ?_
 refine zz ?_
 refine zCp rfl (blanks_calls s (p+nm.length+1) (p+nm.length+1) (by omega) (Nat.le_refl _) (by omega) (fun j h1 h2=>absurd h1 (by omega)) (fun _=>by rw [b2];decide)) ?_
 refine zz ?_
 refine z_cutN (p+nm.length+1) (p+nm.length+1+1) (want_L rfl) (by decide) rfl rfl rfl rfl rfl (by omega) (by omega) ?_
 rw [show (s.drop (p+nm.length+1)).take (p+nm.length+1+1 - (p+nm.length+1))= [34] by rw [d2,show p+nm.length+1+1 - (p+nm.length+1)=1 by omega];rfl]
 refine zz ?_
 refine zCl rfl (index_at s [34] (p+nm.length+2) (p+nm.length+2+(safeN true v).length) (by omega) (by decide) (by omega) (by simp only [List.length_cons,List.length_nil];omega) (by rw [d4];rfl) (fun j h1 h2 h3=> ?_)) ?_
 ·refine safe_q v ?_
  exact mem_of_take d3 (by omega) (by omega) h3
 rintro _ u8 ⟨rfl,hu8⟩
 obtain rfl:=hu8.symm
 refine ⟨_,rfl,?_⟩
 refine zz ?_
 refine z_cutN (p+nm.length+1+1) (p+nm.length+1+1+(safeN true v).length) (want_L rfl) (by decide) rfl rfl rfl rfl (by omega) (by omega) (by omega) ?_
 rw [cut_app d3]
 refine zCr rfl (expand_calls true v true (by omega) hvl) fun u9 hC9=> ?_
 refine zCp rfl (clear_calls v (by omega) h0) ?_
 have hb79:=hb75.no hC9
 have hb49:=hb4.no hC9
 refine zfa rfl ?_
 refine z_store (want_L rfl) rfl rfl rfl (by assumption) (by first|exact Nat.le_refl _|simp [Value.cells]) (by simp [Value.cells,Value.oneCell']) (fun u11 hU11=> ?_)
 have hb711:Blk u11 b7 45 [.string (bs nm),.string (bs v)]:=hU11.blk
 have hb411:Blk u11 b4 45 [.string (bs []),.string (bs [])]:=hb49.chg hU11.chg hne
 refine zz ?_
 refine z_store (want_L rfl) rfl rfl rfl (by assumption) (by first|exact Nat.le_refl _|simp [Value.cells]) (by simp [Value.cells,Value.oneCell']) (fun u12 hU12=> ?_)
 have hb412:Blk u12 b4 45 [.string (bs nm),.string (bs v)]:=hU12.blk
 refine zz ?_
 refine zk_retCT (.inr rfl) rfl rfl rfl hb412 rfl ⟨?_,?_⟩
 ·have e1:((p+nm.length+(safeN true v).length+3:Nat):Int)=((p+nm.length+2+(safeN true v).length:Nat):Int)+1:=by omega
  rw [e1]
 ·have h7:=hN7.at_
  have hs2:=(hN1.chg.no hC2).size
  exact ((hC5.no hC9).upd hU11 (by omega)).upd hU12 (hN1.ge (Chg.refl _ No))
theorem find_calls {w:World} {v:Value} (l:List At) (x:List UInt8) (h:RdS w 45 2 v l.length (encA l)) (hl:l.length≤100000) (hx:x∉l.map (·.1)):Calls Tryz.prog 109 [v,.string (bs x)].toArray w fun e w'=>e= .returned (.tuple #[.string ⟨#[]⟩,.bool false])∧w'=w:=by
 obtain ⟨A,c,rfl,hc⟩:=RdS.form h
 refine zCz 25 Tryz.func109 ?_
 refine zz ?_
 refine zc_loopW (ι:=Nat) (fun i u=> [(0,.slice A l.length c),(1,.string (bs x)),(6,.int .i64 (i:Nat))]) (fun i u=>i≤l.length∧u=w) (fun i u=>l.length - i) 0 ⟨Nat.zero_le _,rfl⟩ ⟨rfl,rfl,rfl,trivial⟩ ?_
 rintro i u ⟨hi,hu⟩
 obtain rfl:=hu.symm
 by_cases hlt:i<l.length
 ·obtain ⟨b,o,c',hv,_,hcell⟩:=RdS.some h (by omega)
  cases hv
  have hc0:=hcell _ _ (encA_get l i hlt).1
  have hne:(l.getD i at0).1≠x:=fun he=>hx (by
   rw [←he]
   refine List.mem_map.mpr ⟨_,?_,rfl⟩
   rw [List.getD_eq_getElem?_getD,List.getElem?_eq_getElem hlt]
   exact List.getElem_mem hlt)
  refine zz ?_
  refine zEq rfl rfl (fun hq=>absurd hq hne) (fun hq=> ?_)
  refine zz ?_
  exact zk_loopW (i+1) ⟨by omega,rfl⟩ (by omega) ⟨rfl,rfl,get_int rfl (by simp),trivial⟩
 ·obtain rfl:i=l.length:=by omega
  refine zz ?_
  exact zk_ret2 (.inr rfl) rfl rfl rfl ⟨rfl,rfl⟩
def tokV (k:Int) (nm:List UInt8) (va:Value) (tx:List UInt8):Value:= .agg [.int .i64 k,.string (bs nm),va,.bool false,.string (bs tx)].toArray
structure AtOk (al:List At):Prop where
 nm: ∀a∈al,a.1≠ []∧(∀c∈a.1,lowC c)∧0∉a.2∧a.2.length≤1000000000
 nd:(al.map (·.1)).Nodup
 ln:al.length≤100000
theorem atD_mem (al:List At) (j:Nat) (h:j<al.length):al.getD j at0∈al:=by
 rw [List.getD_eq_getElem?_getD,List.getElem?_eq_getElem h]
 exact List.getElem_mem h
theorem take_at (al:List At) (j:Nat) (h:j<al.length):al.take (j+1)=al.take j++ [al.getD j at0]:=by
 rw [List.take_add_one,List.getD_eq_getElem?_getD,List.getElem?_eq_getElem h];rfl
theorem AtOk.new {al:List At} (h:AtOk al) (j:Nat) (hj:j<al.length):(al.getD j at0).1∉(al.take j).map (·.1):=by
 intro hm
 have h1:((al.take (j+1)).map (·.1)).Nodup:=((List.take_sublist (j+1) al).map (·.1)).nodup h.nd
 rw [take_at al j hj,List.map_append,List.nodup_append] at h1
 exact h1.2.2 _ hm _ (by simp) rfl
theorem readS_calls {w:World} (s nm r:List UInt8) (al:List At) (p:Nat) (hs:s.drop p=60::(nm++(attrsS al++62::r))) (hn0:nm≠ []) (hn: ∀c∈nm,lowC c) (ha:AtOk al) (hl:s.length≤1000000000):
  Calls Tryz.prog 73 [.string (bs s),.int .i64 (p:Nat)].toArray w fun e w'=>(∃va,e= .returned (.tuple #[tokV 1 nm va [],.int .i64 ((p+nm.length+(attrsS al).length+2:Nat):Int)])∧Own w' 45 2 va al.length (encA al)∧(∀k,va.ownBlock=some k→w.heap.size≤k))∧Chg w w' No:=by
 have hbig:big=1000000000000:=rfl
 have hsl:=drop_lt hs (by simp)
 simp only [List.length_append,List.length_cons] at hsl
 have hnl:1≤nm.length:=List.length_pos_iff.mpr hn0
 have hal:=ha.ln
 have d1:=drop_one hs
 have d2:=drop_app d1
 have b1:Z.byteL s (p+1+nm.length)=62∨Z.byteL s (p+1+nm.length)=32:=by
  cases al with
  |nil=>exact .inl (zbyte_drop d2)
  |cons a q=>exact .inr (zbyte_drop d2)
 have bl:=low_byte d1 hn (p+1) (Nat.le_refl _) (by omega)
 refine zCz 128 Tryz.func73 ?_
 refine zS (zR ?_)
 refine zAl (fun w1 b4 hN1=> ?_)
 refine zz ?_
 refine z_buildE #[.int .i64 1,.string (bs []),nS,.bool false,.string (bs [])] (want_L rfl) (by decide) rfl (by kernel_rfl) ?_
 refine zAl (fun w2 b6 hN2=> ?_)
 have hb62:Blk w2 b6 66 [.int .i64 0,.string ⟨#[]⟩,nS,.bool false,.string ⟨#[]⟩]:=hN2.blk
 refine z_store (want_L rfl) rfl rfl rfl (by assumption) (by first|exact Nat.le_refl _|simp [Value.cells]) (by simp [Value.cells,Value.oneCell']) (fun w3 hU3=> ?_)
 have hb63:Blk w3 b6 66 [.int .i64 1,.string (bs []),nS,.bool false,.string (bs [])]:=hU3.blk
 have hX3:Chg w1 w3 No:=hN2.chg.upd hU3 (hN2.ge (Chg.refl _ No))
 have hb43:Blk w3 b4 66 [.int .i64 0,.string ⟨#[]⟩,nS,.bool false,.string ⟨#[]⟩]:=Blk.no hN1.blk hX3
 have hC3:Chg w w3 No:=hN1.chg.no hX3
 have hge4:w.heap.size≤b4:=hN1.ge (Chg.refl _ No)
 have hge6:w.heap.size≤b6:=hN2.ge hN1.chg
 have hne:b4≠b6:=by have h1:=hN2.at_;have h2:=hN1.blk.lt;omega
 refine zz ?_
 refine zc_midBX (ι:=Unit) (fun _ u=>u=w3) (fun _=> [(0,.string (bs s)),(4,.pointer (some ⟨b4,0,none⟩)),(6,.pointer (some ⟨b6,0,none⟩)),(7,.int .i64 ((p+1:Nat):Int)),(8,.int .i64 ((p+1+nm.length:Nat):Int))]) ?_ ?_
 ·refine zc_loopW (ι:=Nat) (fun i u=> [(0,.string (bs s)),(4,.pointer (some ⟨b4,0,none⟩)),(6,.pointer (some ⟨b6,0,none⟩)),(7,.int .i64 ((p+1:Nat):Int)),(8,.int .i64 (i:Nat))]) (fun i u=>p+1≤i∧i≤p+1+nm.length∧u=w3) (fun i u=>p+1+nm.length - i) (p+1) ⟨Nat.le_refl _,by omega,rfl⟩ ⟨rfl,rfl,rfl,get_int rfl (by simp),get_int rfl (by simp),trivial⟩ ?_
  rintro i u ⟨hi1,hi2,hu⟩
  obtain rfl:=hu.symm
  by_cases hlt:i<p+1+nm.length
  ·have hb:=low_byte d1 hn i (by omega) hlt
   refine zz ?_
   refine zCp rfl (blankR_calls (Z.byteL s i)) ?_
   rw [show blankN (Z.byteL s i)=false from decide_eq_false (by omega)]
   refine zz ?_
   exact zk_loopW (i+1) ⟨by omega,by omega,rfl⟩ (by omega) ⟨rfl,rfl,rfl,rfl,get_int rfl (by simp),trivial⟩
  ·obtain rfl:i=p+1+nm.length:=by omega
   refine zz ?_
   refine zCp rfl (blankR_calls (Z.byteL s (p+1+nm.length))) ?_
   rcases b1 with b1|b1
   ·rw [show blankN (Z.byteL s (p+1+nm.length))=false from decide_eq_false (by omega)]
    refine zz ?_
    exact zk_midX () rfl ⟨rfl,rfl,rfl,rfl,rfl,trivial⟩
   ·rw [show blankN (Z.byteL s (p+1+nm.length))=true from decide_eq_true (by omega)]
    refine zz ?_
    exact zk_midX () rfl ⟨rfl,rfl,rfl,rfl,rfl,trivial⟩
 rintro _ u hu
 obtain rfl:=hu.symm
 refine zz ?_
 refine z_cutN (p+1) (p+1+nm.length) (want_L rfl) (by decide) rfl rfl rfl rfl rfl (by omega) (by omega) ?_
 rw [cut_app d1]
 refine zCr rfl (fold_calls nm (by omega) (low_up hn)) fun u4 hC4=> ?_
 refine zCp rfl (clear_calls nm (by omega) (low_nul hn)) ?_
 have hb64:=hb63.no hC4
 refine zfa rfl ?_
 refine z_store (want_L rfl) rfl rfl rfl (by assumption) (by first|exact Nat.le_refl _|simp [Value.cells]) (by simp [Value.cells,Value.oneCell']) (fun w6 hU6=> ?_)
 have hb66:Blk w6 b6 66 [.int .i64 1,.string (bs nm),nS,.bool false,.string (bs [])]:=hU6.blk
 have hb46:=(hb43.no hC4).chg hU6.chg hne
 have hC6:Chg w w6 No:=(hC3.no hC4).upd hU6 hge6
 refine zN (zK (zB ?_))
 refine zc_loopW (ι:=Nat×Nat×Value) (fun q u=> [(0,.string (bs s)),(4,.pointer (some ⟨b4,0,none⟩)),(6,.pointer (some ⟨b6,0,none⟩)),(8,.int .i64 (q.2.1:Nat))]) (fun q u=>q.1≤al.length∧s.drop q.2.1=attrsS (al.drop q.1)++62::r∧q.2.1+(attrsS (al.drop q.1)).length=p+1+nm.length+(attrsS al).length∧Own u 45 2 q.2.2 q.1 (encA (al.take q.1))∧(∀k,q.2.2.ownBlock=some k→w.heap.size≤k)∧Blk u b6 66 [.int .i64 1,.string (bs nm),q.2.2,.bool false,.string (bs [])]∧Blk u b4 66 [.int .i64 0,.string ⟨#[]⟩,nS,.bool false,.string ⟨#[]⟩]∧Chg w u No) (fun q u=>al.length - q.1) (0,p+1+nm.length,nS) ⟨Nat.zero_le _,d2,rfl,Own.nil,fun k hk=>(by cases hk),hb66,hb46,hC6⟩ ⟨rfl,rfl,rfl,rfl,trivial⟩ ?_
 rintro ⟨j,q,V⟩ u ⟨hj,hd,hq,hO,hF,hb6,hb4,hC⟩
 dsimp only at hj hd hq hO hF hb6 hb4 hC ⊢
 obtain ⟨A,c,rfl,hcap⟩:=RdS.form hO.rd
 by_cases hlt:j<al.length
 ·obtain ⟨g1,g2,g3,g4⟩:=ha.nm _ (atD_mem al j hlt)
  have gnew:=ha.new j hlt
  have gtk:=take_at al j hlt
  obtain ⟨e1,_⟩:=attrs_drop al j hlt
  have gl:(al.take j).length=j:=by rw [List.length_take];omega
  rw [e1] at hd hq
  unfold attrP at hd hq
  generalize al.getD j at0=a at g1 g2 g3 g4 gnew gtk hd hq e1
  obtain ⟨ak,av⟩:=a
  dsimp only at g1 g2 g3 g4 gnew hd hq
  simp only [List.append_assoc,List.cons_append,List.nil_append] at hd
  simp only [List.length_append,List.length_cons,List.length_nil] at hq
  have c1:Z.byteL s q=32:=zbyte_drop hd
  have d3:=drop_one hd
  have hakl:1≤ak.length:=List.length_pos_iff.mpr g1
  have c2:=low_byte d3 g2 (q+1) (Nat.le_refl _) (by omega)
  have d4:s.drop (q+1+ak.length+(safeN true av).length+3)=attrsS (al.drop (j+1))++62::r:=by
   have f1:=drop_one (drop_one (drop_app d3))
   have f2:=drop_one (drop_app f1)
   rw [←f2];congr 1;omega
  refine zz ?_
  refine zc_loopW (ι:=Nat) (fun i u=> [(0,.string (bs s)),(4,.pointer (some ⟨b4,0,none⟩)),(6,.pointer (some ⟨b6,0,none⟩)),(8,.int .i64 (i:Nat)),(9,.bool false)]) (fun i v=>(i=q∨i=q+1)∧v=u) (fun i u=>q+1 - i) q ⟨.inl rfl,rfl⟩ ⟨rfl,rfl,rfl,rfl,rfl,trivial⟩ ?_
  rintro i v ⟨hi,hv⟩
  obtain rfl:=hv.symm
  rcases hi with rfl|rfl
  ·refine zz ?_
   refine zCp rfl (blankR_calls (Z.byteL s i)) ?_
   rw [show blankN (Z.byteL s i)=true from decide_eq_true (by omega)]
   refine zz ?_
   exact zk_loopW (i+1) ⟨.inr rfl,rfl⟩ (by omega) ⟨rfl,rfl,rfl,get_int rfl (by simp),rfl,trivial⟩
  ·refine zz ?_
   refine zCp rfl (blankR_calls (Z.byteL s (q+1))) ?_
   rw [show blankN (Z.byteL s (q+1))=false from decide_eq_false (by omega)]
   refine zz ?_
   refine zCr rfl (attr_calls s ak av (attrsS (al.drop (j+1))++62::r) (q+1) d3 g1 g2 g3 hl g4) fun u2 hC2=> ?_
   have hb62:=hb6.no hC2
   have hb42:=hb4.no hC2
   have hO2:=hO.no hC2
   refine zP rfl (zP rfl (zP rfl ?_))
   refine zAl (fun u3 b10 hN3=> ?_)
   have hb103:Blk u3 b10 45 [.string ⟨#[]⟩,.string ⟨#[]⟩]:=hN3.blk
   refine z_store (want_L rfl) rfl rfl rfl (by assumption) (by first|exact Nat.le_refl _|simp [Value.cells]) (by simp [Value.cells,Value.oneCell']) (fun u4 hU4=> ?_)
   have hb104:Blk u4 b10 45 [.string (bs ak),.string (bs av)]:=hU4.blk
   have hX4:Chg u2 u4 No:=hN3.chg.upd hU4 (hN3.ge (Chg.refl _ No))
   have hb64:=hb62.no hX4
   have hb44:=hb42.no hX4
   have hO4:=hO2.no hX4
   refine zz ?_
   refine zCp rfl (find_calls (al.take j) ak (by rw [gl];exact hO4.rd) (by omega) gnew) ?_
   refine zz ?_
   refine z_bsE (encA [(ak,av)]) (want_L rfl) (by decide) rfl (by decide) (by decide) (by kernel_rfl) (fun u6 bn hN6=> ?_)
   have hr6:RdS u6 45 2 (.slice (some ⟨bn,0,none⟩) 1 1) 1 (encA [(ak,av)]):=RdS.blk hN6.blk rfl (Nat.le_refl _) (encA_one _) 0 (fun j u hj=>by rw [Nat.zero_add];exact hj)
   have hb66:=hb64.no hN6.chg
   have hb46:=hb44.no hN6.chg
   have hO6:=hO4.no hN6.chg
   refine z_appendO (by rfl) (by decide) (want_L rfl) (by decide) rfl rfl hO6 hr6 (by omega) (by omega) (fun V' u7 hO7 hC7 hr7=> ?_)
   obtain ⟨A',c',rfl,hcap'⟩:=RdS.form hO7.rd
   have hb67:=hb66.chg hC7 (fun hk=>(Own.ne hO6 hk hb66 (by decide)) rfl)
   have hb47:=hb46.chg hC7 (fun hk=>(Own.ne hO6 hk hb46 (by decide)) rfl)
   have hC6':Chg w u6 No:=((hC.no hC2).no hX4).no hN6.chg
   have hC7':Chg w u7 No:=hC6'.trans hC7 (fun k hk hS=>absurd hk (by have:=hF k hS;omega))
   rw [←encA_app,←gtk] at hO7
   refine zfa rfl ?_
   refine z_store (want_L rfl) rfl rfl rfl (by assumption) (by first|exact Nat.le_refl _|simp [Value.cells]) (by simp [Value.cells,Value.oneCell']) (fun u8 hU8=> ?_)
   have hb68:Blk u8 b6 66 [.int .i64 1,.string (bs nm),.slice A' (j+1) c',.bool false,.string (bs [])]:=hU8.blk
   have hb48:=hb47.chg hU8.chg hne
   have hO8:=hO7.upd hU8 (by decide)
   refine zz ?_
   refine zk_loopW (j+1,q+1+ak.length+(safeN true av).length+3,.slice A' (j+1) c') ⟨by omega,d4,?_,hO8,?_,hb68,hb48,hC7'.upd hU8 hge6⟩ (by dsimp only;omega) ⟨rfl,rfl,rfl,rfl,trivial⟩
   ·dsimp only;omega
   ·intro k hk
    have hk':(Value.slice A' (j+1) c').ownBlock=some k:=hk
    rcases hr7 with h7|⟨k2,h7,h8⟩
    ·rw [h7] at hk'
     exact hF k hk'
    ·rw [h7] at hk'
     have:=hC6'.size
     cases hk'
     omega
 ·obtain rfl:j=al.length:=by omega
  rw [List.drop_length] at hd hq
  have c1:Z.byteL s q=62:=zbyte_drop hd
  have hq2:q=p+1+nm.length+(attrsS al).length:=hq
  rw [List.take_length] at hO
  refine zz ?_
  refine zc_loopW (ι:=Unit) (fun _ u=> [(0,.string (bs s)),(4,.pointer (some ⟨b4,0,none⟩)),(6,.pointer (some ⟨b6,0,none⟩)),(8,.int .i64 (q:Nat)),(9,.bool false)]) (fun _ v=>v=u) (fun _ u=>0) () rfl ⟨rfl,rfl,rfl,rfl,rfl,trivial⟩ ?_
  rintro _ v hv
  obtain rfl:=hv.symm
  refine zz ?_
  refine zCp rfl (blankR_calls (Z.byteL s q)) ?_
  rw [show blankN (Z.byteL s q)=false from decide_eq_false (by omega)]
  refine zz ?_
  refine z_store (want_L rfl) rfl rfl rfl (by assumption) (by first|exact Nat.le_refl _|simp [Value.cells]) (by simp [Value.cells,Value.oneCell']) (fun w7 hU7=> ?_)
  have hb67:Blk w7 b6 66 [.int .i64 1,.string (bs nm),.slice A al.length c,.bool false,.string (bs [])]:=hU7.blk
  have hb47:=hb4.chg hU7.chg hne
  have hO7:=hO.upd hU7 (by decide)
  refine zz ?_
  refine z_store (want_L rfl) rfl rfl rfl (by assumption) (by first|exact Nat.le_refl _|simp [Value.cells]) (by simp [Value.cells,Value.oneCell']) (fun w8 hU8=> ?_)
  have hb48:Blk w8 b4 66 [.int .i64 1,.string (bs nm),.slice A al.length c,.bool false,.string (bs [])]:=hU8.blk
  have hO8:=hO7.upd hU8 (by decide)
  refine zz ?_
  refine zk_retCT (.inr rfl) rfl rfl rfl hb48 rfl ⟨⟨.slice A al.length c,?_,hO8,hF⟩,(hC.upd hU7 hge6).upd hU8 hge4⟩
  have e1:((p+nm.length+(attrsS al).length+2:Nat):Int)=((q:Nat):Int)+1:=by omega
  rw [e1];rfl
theorem readE_calls {w:World} (s nm r:List UInt8) (p:Nat) (hs:s.drop p=60::47::(nm++62::r)) (hn0:nm≠ []) (hn: ∀c∈nm,lowC c) (hl:s.length≤1000000000):
  Calls Tryz.prog 73 [.string (bs s),.int .i64 (p:Nat)].toArray w fun e w'=>e= .returned (.tuple #[tokV 2 nm nS [],.int .i64 ((p+nm.length+3:Nat):Int)])∧Chg w w' No:=by
 have hbig:big=1000000000000:=rfl
 have hsl:=drop_lt hs (by simp)
 simp only [List.length_append,List.length_cons] at hsl
 have hnl:1≤nm.length:=List.length_pos_iff.mpr hn0
 have d0:=drop_one hs
 have d1:s.drop (p+2)=nm++62::r:=drop_one d0
 have d2:=drop_app d1
 have b0:Z.byteL s (p+1)=47:=zbyte_drop d0
 have b1:Z.byteL s (p+2+nm.length)=62:=zbyte_drop d2
 refine zCz 128 Tryz.func73 ?_
 refine zS (zR ?_)
 refine zAl (fun w1 b4 hN1=> ?_)
 refine zz ?_
 refine z_buildE #[.int .i64 1,.string (bs []),nS,.bool false,.string (bs [])] (want_L rfl) (by decide) rfl (by kernel_rfl) ?_
 refine zAl (fun w2 b6 hN2=> ?_)
 have hb62:Blk w2 b6 66 [.int .i64 0,.string ⟨#[]⟩,nS,.bool false,.string ⟨#[]⟩]:=hN2.blk
 refine z_store (want_L rfl) rfl rfl rfl (by assumption) (by first|exact Nat.le_refl _|simp [Value.cells]) (by simp [Value.cells,Value.oneCell']) (fun w3 hU3=> ?_)
 have hb63:Blk w3 b6 66 [.int .i64 1,.string (bs []),nS,.bool false,.string (bs [])]:=hU3.blk
 have hX3:Chg w1 w3 No:=hN2.chg.upd hU3 (hN2.ge (Chg.refl _ No))
 have hb43:Blk w3 b4 66 [.int .i64 0,.string ⟨#[]⟩,nS,.bool false,.string ⟨#[]⟩]:=Blk.no hN1.blk hX3
 have hC3:Chg w w3 No:=hN1.chg.no hX3
 have hge4:w.heap.size≤b4:=hN1.ge (Chg.refl _ No)
 have hge6:w.heap.size≤b6:=hN2.ge hN1.chg
 have hne:b4≠b6:=by have h1:=hN2.at_;have h2:=hN1.blk.lt;omega
 refine zz ?_
 refine z_store (want_L rfl) rfl rfl rfl (by assumption) (by first|exact Nat.le_refl _|simp [Value.cells]) (by simp [Value.cells,Value.oneCell']) (fun w4 hU4=> ?_)
 have hb64:Blk w4 b6 66 [.int .i64 2,.string (bs []),nS,.bool false,.string (bs [])]:=hU4.blk
 have hb44:=hb43.chg hU4.chg hne
 have hC4:Chg w w4 No:=hC3.upd hU4 hge6
 refine zz ?_
 refine zc_loopW (ι:=Nat) (fun i u=> [(0,.string (bs s)),(4,.pointer (some ⟨b4,0,none⟩)),(6,.pointer (some ⟨b6,0,none⟩)),(7,.int .i64 ((p+2:Nat):Int)),(8,.int .i64 (i:Nat))]) (fun i u=>p+2≤i∧i≤p+2+nm.length∧u=w4) (fun i u=>p+2+nm.length - i) (p+2) ⟨Nat.le_refl _,by omega,rfl⟩ ⟨rfl,rfl,rfl,get_int rfl (by omega),get_int rfl (by omega),trivial⟩ ?_
 rintro i u ⟨hi1,hi2,hu⟩
 obtain rfl:=hu.symm
 by_cases hlt:i<p+2+nm.length
 ·have hb:=low_byte d1 hn i (by omega) hlt
  refine zz ?_
  refine zCp rfl (blankR_calls (Z.byteL s i)) ?_
  rw [show blankN (Z.byteL s i)=false from decide_eq_false (by omega)]
  refine zz ?_
  exact zk_loopW (i+1) ⟨by omega,by omega,rfl⟩ (by omega) ⟨rfl,rfl,rfl,rfl,get_int rfl (by simp),trivial⟩
 obtain rfl:i=p+2+nm.length:=by omega
 refine zz ?_
 refine zCp rfl (blankR_calls (Z.byteL s (p+2+nm.length))) ?_
 rw [show blankN (Z.byteL s (p+2+nm.length))=false from decide_eq_false (by omega)]
 refine zz ?_
 refine z_cutN (p+2) (p+2+nm.length) (want_L rfl) (by decide) rfl rfl rfl rfl rfl (by omega) (by omega) ?_
 rw [cut_app d1]
 refine zCl rfl (fold_calls nm (by omega) (low_up hn)) ?_
 rintro _ u4 ⟨rfl,hC4'⟩
 refine ⟨_,rfl,?_⟩
 refine zCp rfl (clear_calls nm (by omega) (low_nul hn)) ?_
 have hb65:=hb64.no hC4'
 refine zfa rfl ?_
 refine z_store (want_L rfl) rfl rfl rfl (by assumption) (by first|exact Nat.le_refl _|simp [Value.cells]) (by simp [Value.cells,Value.oneCell']) (fun w6 hU6=> ?_)
 have hb66:Blk w6 b6 66 [.int .i64 2,.string (bs nm),nS,.bool false,.string (bs [])]:=hU6.blk
 have hb46:=(hb44.no hC4').chg hU6.chg hne
 have hC6:Chg w w6 No:=(hC4.no hC4').upd hU6 hge6
 refine zN (zK (zB ?_))
 refine zc_loopW (ι:=Unit) (fun _ u=> [(0,.string (bs s)),(4,.pointer (some ⟨b4,0,none⟩)),(6,.pointer (some ⟨b6,0,none⟩)),(8,.int .i64 ((p+2+nm.length:Nat):Int))]) (fun _ v=>v=w6) (fun _ u=>0) () rfl ⟨rfl,rfl,rfl,rfl,trivial⟩ ?_
 rintro _ v hv
 obtain rfl:=hv.symm
 refine zz ?_
 refine zc_loopW (ι:=Unit) (fun _ u=> [(0,.string (bs s)),(4,.pointer (some ⟨b4,0,none⟩)),(6,.pointer (some ⟨b6,0,none⟩)),(8,.int .i64 ((p+2+nm.length:Nat):Int)),(9,.bool false)]) (fun _ v=>v=w6) (fun _ u=>0) () rfl ⟨rfl,rfl,rfl,rfl,rfl,trivial⟩ ?_
 rintro _ v hv
 obtain rfl:=hv.symm
 refine zz ?_
 refine zCp rfl (blankR_calls (Z.byteL s (p+2+nm.length))) ?_
 rw [show blankN (Z.byteL s (p+2+nm.length))=false from decide_eq_false (by omega)]
 refine zz ?_
 refine z_store (want_L rfl) rfl rfl rfl (by assumption) (by first|exact Nat.le_refl _|simp [Value.cells]) (by simp [Value.cells,Value.oneCell']) (fun w7 hU7=> ?_)
 have hb67:Blk w7 b6 66 [.int .i64 2,.string (bs nm),nS,.bool false,.string (bs [])]:=hU7.blk
 have hb47:=hb46.chg hU7.chg hne
 refine zz ?_
 refine z_store (want_L rfl) rfl rfl rfl (by assumption) (by first|exact Nat.le_refl _|simp [Value.cells]) (by simp [Value.cells,Value.oneCell']) (fun w8 hU8=> ?_)
 have hb48:Blk w8 b4 66 [.int .i64 2,.string (bs nm),nS,.bool false,.string (bs [])]:=hU8.blk
 refine zz ?_
 refine zk_retCT (.inr rfl) rfl rfl rfl hb48 rfl ⟨?_,(hC6.upd hU7 hge6).upd hU8 hge4⟩
 have e1:((p+nm.length+3:Nat):Int)=((p+2+nm.length:Nat):Int)+1:=by omega
 rw [e1];rfl
theorem atS_calls {w:World} (s r:List UInt8) (c:UInt8) (p:Nat) (hs:s.drop p=60::c::r) (hc:97≤c.toNat∧c.toNat≤122) (hl:s.length≤1000000000):Calls Tryz.prog 72 [.string (bs s),.int .i64 (p:Nat)].toArray w fun e w'=>e= .returned (.bool true)∧w'=w:=by
 have hsl:=drop_lt hs (by simp)
 simp only [List.length_cons] at hsl
 have b0:Z.byteL s p=60:=zbyte_drop hs
 have b1:Z.byteL s (p+1)=c.toNat:=zbyte_drop (drop_one hs)
 refine zCz 48 Tryz.func72 ?_
 refine zz ?_
 refine zCp rfl (letter_calls (Z.byteL s (p+1))) ?_
 refine zz ?_
 exact zk_ret1 (.inr rfl) rfl rfl ⟨by unfold letN;rw [decide_eq_true (by omega)],rfl⟩
theorem atE_calls {w:World} (s r:List UInt8) (c:UInt8) (p:Nat) (hs:s.drop p=60::47::c::r) (hc:97≤c.toNat∧c.toNat≤122) (hl:s.length≤1000000000):Calls Tryz.prog 72 [.string (bs s),.int .i64 (p:Nat)].toArray w fun e w'=>e= .returned (.bool true)∧w'=w:=by
 have hsl:=drop_lt hs (by simp)
 simp only [List.length_cons] at hsl
 have b0:Z.byteL s p=60:=zbyte_drop hs
 have b1:Z.byteL s (p+1)=47:=zbyte_drop (drop_one hs)
 have b2:Z.byteL s (p+2)=c.toNat:=zbyte_drop (drop_one (drop_one hs))
 refine zCz 48 Tryz.func72 ?_
 refine zz ?_
 refine zCp rfl (letter_calls (Z.byteL s (p+2))) ?_
 refine zz ?_
 exact zk_ret1 (.inr rfl) rfl rfl ⟨by unfold letN;rw [decide_eq_true (by omega)],rfl⟩
theorem atT_calls {w:World} (s:List UInt8) (p:Nat) (hp:p<s.length) (hs:Z.byteL s p≠60) (hl:s.length≤1000000000):Calls Tryz.prog 72 [.string (bs s),.int .i64 (p:Nat)].toArray w fun e w'=>e= .returned (.bool false)∧w'=w:=by
 refine zCz 48 Tryz.func72 ?_
 refine zz ?_
 exact zk_ret1 (.inr rfl) rfl rfl ⟨rfl,rfl⟩
end Go.Proofs.YtbcmiijollpgeaaGreat.T
namespace Go.Z
open Go
theorem run_storeB {P:Program} {w:World} {b o el s k t:Nat} {cs:List Value} {v z:Value} [hz:Inf P t 1 k z] (hb:BlkB w b el cs) (ho:o<cs.length) (h1:v.oneCell'=true) (hs:v.cells= #[v]):
  (Instr.storeAt t (.pointer (some ⟨b,o,none⟩)) v).run P w= .ok () (w.setRow b (cs.set o v).toArray):=by
 have hh:w.heap[b]? =some (.cells cs.toArray el (cs.length,cs.length+1)):=hb
 have hcell:w.cell? ⟨b,o,none⟩=some cs[o]:=by rw [hb.cell,List.getElem?_eq_getElem ho]
 have hfro:w.frozen? ⟨b,o,none⟩=false:=by
  simp only [World.frozen?,hh,Bool.and_eq_false_iff,decide_eq_false_iff_not];left;omega
 have hadd:(⟨b,o,none⟩:Addr).add 0=⟨b,o,none⟩:=rfl
 have hst:(store ((⟨b,o,none⟩:Addr).add 0) v).run P w= .ok () (w.setRow b (cs.set o v).toArray):=by
  rw [hadd,run_store P w _ v _ h1,hcell]
  simp [hfro,setCell_eq_setRow w b o cs.toArray el _ v hh]
 simp only [Instr.storeAt,Instr.sureAddr,storeVar,Sem.run_bind,Sem.run_pure,Result.andThen_ok,hz.size w]
 rw [if_neg (by simp [hs])]
 simp [hs,storeCells,hst]
theorem z_storeB {P:Program} {n:Nat} {e:Env} {w:World} {Q:Exit→Act→World→Prop} {ops:Array Oper} {rest:List Oper} {ty:TypeId} {pos:String} {aft:Array Edge} {g:Option (Nat×Bool)} {x y:Operand}
  {b o el k t:Nat} {cs:List Value} {v z:Value} [hz:Inf P t 1 k z] (hw:Want ops e g) (hx:ev e x=some (.pointer (some ⟨b,o,none⟩))) (hy:ev e y=some v) (hb:BlkB w b el cs) (ho:o<cs.length) (h1:v.oneCell'=true) (hs:v.cells= #[v])
  (h: ∀w',BlkB w' b el (cs.set o v)→Chg w w' (· =b)→ZL P n ops rest e w' Q):ZL P n ops (⟨none,.store t x y,ty,pos,aft,g⟩::rest) e w Q:=by
 refine zl_runU (w':=w.setRow b (cs.set o v).toArray) hw rfl (fun a ha=>by simp [execOp,ha.ev hx,ha.ev hy,run_storeB (s:=0) hb ho h1 hs]) (h _ ?_ ⟨rfl,rfl,rfl,by simp [World.setRow],fun j _ hj=>setRow_other w b j _ hj⟩)
 have:=setRow_heap w b _ (cs.set o v).toArray el _ hb
 unfold BlkB
 rw [this];simp
theorem ev_ptr' {e:Env} {x:Operand} {b o o':Nat} (h:ev e x=some (.pointer (some ⟨b,o,none⟩))) (ho:o=o'):ev e x=some (.pointer (some ⟨b,o',none⟩)):=by rw [h,ho]
section
variable {P : Program} {n : Nat} {e : Env} {w : World} {Q : Exit → Act → World → Prop}
theorem zk_retCTT {x:Exit} (hx:x= .normal∨x= .ret) {fn:Func} {R:Ending→World→Prop} {t t2 t3:Tmp} {u bt:TypeId} {b sz k:Nat} {z v2 v3:Value} {cs:List Value} [hA:IsA P u true] [hz:Inf P u sz k z] (hr:fn.results= #[.cell t u,.tmp t2,.tmp t3]) (hv:Env.get e t=some (.pointer (some ⟨b,0,none⟩))) (hv2:Env.get e t2=some v2) (hv3:Env.get e t3=some v3) (hb:Blk w b bt cs) (hl:cs.length=sz)
  (h:R (.returned (.tuple #[.agg cs.toArray,v2,v3])) w):ZK n x e w (bodyPost P fn R):=
 zk_retR hx (v:= .tuple #[.agg cs.toArray,v2,v3]) (fun a ha=>by
  have h1:a.tmps.getD t undef= .pointer (some ⟨b,0,none⟩):=by rw [Array.getD_eq_getD_getElem?,ha.at_ t _ hv];rfl
  have h3:a.tmps.getD t2 undef=v2:=by rw [Array.getD_eq_getD_getElem?,ha.at_ t2 _ hv2];rfl
  have h4:a.tmps.getD t3 undef=v3:=by rw [Array.getD_eq_getD_getElem?,ha.at_ t3 _ hv3];rfl
  have h2:(loadVar u ⟨b,0,none⟩).run P w= .ok (.agg cs.toArray) w:=by
   simp only [loadVar,Sem.run_bind,hA.run w,Result.andThen_ok,if_true,hz.size w,←hl,run_loadCells_list (P:=P) w ⟨b,0,none⟩ cs (fun j u hj=>by rw [addr_add,Nat.zero_add,hb.cell j];exact hj),Sem.run_pure]
  simp only [Array.getD_eq_getD_getElem?] at h1 h3 h4
  simp [results,hr,h1,h3,h4,asAddr,h2]) h
end
end Go.Z
namespace Go.Proofs.YtbcmiijollpgeaaGreat.T
open Go Go.Z Go.Proofs
theorem foldW_calls {w:World} (l:List UInt8) (hl:l.length≤big) (h0:l.getD 0 0≠60):Calls Tryz.prog 76 [.string (bs l)].toArray w fun e w'=>(∃l',e= .returned (.string (bs l'))∧l'.getD 0 0≠60)∧Chg w w' No:=by
 have hbig:big=1000000000000:=rfl
 refine zCz 35 Tryz.func76 ?_
 refine zz ?_
 refine z_convSB (want_L rfl) (by decide) rfl (fun w1 b c z hb hC hB hc=> ?_)
 refine zz ?_
 refine zc_loopW (ι:=Nat×List UInt8) (fun q u=> [(3,.slice (some ⟨b,0,none⟩) l.length c),(4,.int .i64 (q.1:Nat))]) (fun q u=>q.1≤l.length∧q.2.length=l.length∧q.2.getD 0 0≠60∧Chg w u No∧BlkB u b 5 (cellsB q.2++z)) (fun q u=>l.length - q.1) (0,l) ⟨Nat.zero_le _,rfl,h0,hC,hB⟩ ?_ ?_
 ·exact ⟨rfl,rfl,trivial⟩
 rintro ⟨k,m⟩ u ⟨hk,hml,hm0,hC,hB⟩
 dsimp only at hk hml hm0 hC hB ⊢
 by_cases hkl:k<l.length
 ·have hcell:u.cell? ⟨b,k,none⟩=some (.int .u8 ((m.getD k 0).toNat:Nat)):=by
   rw [hB.cell,List.getElem?_append_left (by simp [cellsB];omega),cellsB_at _ k (by omega)]
  obtain ⟨cc,hcc⟩: ∃x,x=(m.getD k 0).toNat:=⟨_,rfl⟩
  rw [←hcc] at hcell
  by_cases h65:65≤cc
  ·by_cases h90:cc≤90
   ·refine zz ?_
    refine zL1 rfl (cell_at hcell (by omega)) (zz ?_)
    refine zL1 rfl (cell_at hcell (by omega)) (zz ?_)
    refine zL1 rfl (cell_at hcell (by omega)) ?_
    refine z_arith (k:= .u8) (c:=(((UInt8.ofNat (cc+32)).toNat:Nat):Int)) (.inl ⟨rfl,?_⟩) (want_L rfl) (by decide) rfl rfl ?_
    ·rw [wrap_u8 (by omega) (by omega)]
     have:(UInt8.ofNat (cc+32)).toNat=cc+32:=by simp;omega
     rw [this];omega
    refine zIa rfl rfl ?_
    refine z_storeB (o:=k) (want_L rfl) (ev_ptr' rfl (by omega)) rfl hB (by rw [List.length_append];simp [cellsB];omega) rfl rfl (fun u2 hB2 hC2=> ?_)
    rw [List.set_append_left _ _ (by simp [cellsB];omega),show (cellsB m).set k (.int .u8 ((UInt8.ofNat (cc+32)).toNat:Nat))=cellsB (m.set k (UInt8.ofNat (cc+32))) by simp [cellsB,List.map_set]] at hB2
    refine zz ?_
    refine zk_loopW (k+1,m.set k (UInt8.ofNat (cc+32))) ⟨by omega,by rw [List.length_set];exact hml,?_,hC.trans hC2 (fun i hi he=>by subst he;omega),hB2⟩ (by dsimp only;omega) ⟨rfl,get_int rfl (by simp),trivial⟩
    dsimp only
    by_cases hk0:k=0
    ·subst hk0
     rw [List.getD_eq_getElem?_getD,List.getElem?_set_self (by omega)]
     intro hq
     have:=congrArg UInt8.toNat hq
     simp at this
     omega
    ·rw [List.getD_eq_getElem?_getD,List.getElem?_set_ne hk0,←List.getD_eq_getElem?_getD];exact hm0
   ·refine zz ?_
    refine zL1 rfl (cell_at hcell (by omega)) (zz ?_)
    refine zL1 rfl (cell_at hcell (by omega)) (zz ?_)
    exact zk_loopW (k+1,m) ⟨by omega,hml,hm0,hC,hB⟩ (by dsimp only;omega) ⟨rfl,get_int rfl (by simp),trivial⟩
  ·refine zz ?_
   refine zL1 rfl (cell_at hcell (by omega)) (zz ?_)
   exact zk_loopW (k+1,m) ⟨by omega,hml,hm0,hC,hB⟩ (by dsimp only;omega) ⟨rfl,get_int rfl (by simp),trivial⟩
 ·have hrb:=hB.rb (c:=c) (by omega)
  rw [hml] at hrb
  refine zz ?_
  refine z_convBS (want_L rfl) (by decide) rfl hrb ?_
  refine zz ?_
  exact zk_ret1 (.inr rfl) rfl rfl ⟨⟨m,rfl,hm0⟩,hC⟩
theorem beg_no (x p:List UInt8) (hx:x.getD 0 0≠60) (hp:p.head? =some 60):beginsN x p=false:=by
 unfold beginsN
 refine decide_eq_false (fun h=>hx ?_)
 cases p with
 |nil=>cases hp
 |cons c q=>
  cases hp
  have h1:(x.take (60::q).length)[0]? =some 60:=by rw [h];rfl
  rw [List.getElem?_take_of_lt (by simp)] at h1
  rw [List.getD_eq_getElem?_getD,h1];rfl
structure NmOk (nm:List UInt8):Prop where
 ne:nm≠ []
 lo: ∀c∈nm,lowC c
 hd: ∃c q,nm=c::q∧97≤c.toNat∧c.toNat≤122
theorem stepS_calls {w:World} (s nm r:List UInt8) (al:List At) (p:Nat) (hs:s.drop p=60::(nm++(attrsS al++62::r))) (hn:NmOk nm) (ha:AtOk al) (hl:s.length≤1000000000):
  Calls Tryz.prog 44 [.string (bs s),.int .i64 (p:Nat),.int .i64 0,.string (bs [])].toArray w fun e w'=>(∃va,e= .returned (.tuple #[tokV 1 nm va [],.int .i64 ((p+nm.length+(attrsS al).length+2:Nat):Int),.bool true])∧Own w' 45 2 va al.length (encA al)∧(∀k,va.ownBlock=some k→w.heap.size≤k))∧Chg w w' No:=by
 obtain ⟨hn0,hlo,c,q,hcq,hc⟩:=hn
 have hs1:s.drop p=60::c::(q++(attrsS al++62::r)):=by rw [hs,hcq];rfl
 refine zCz 171 Tryz.func44 ?_
 refine zS (zR ?_)
 refine zAl (fun w1 b8 hN1=> ?_)
 have hb8:Blk w1 b8 66 [.int .i64 0,.string ⟨#[]⟩,nS,.bool false,.string ⟨#[]⟩]:=hN1.blk
 have hge8:w.heap.size≤b8:=hN1.ge (Chg.refl _ No)
 refine zz ?_
 refine zCp rfl (atS_calls s _ c p hs1 hc hl) ?_
 refine zz ?_
 refine zCl rfl (readS_calls s nm r al p hs hn0 hlo ha hl) ?_
 rintro _ u2 ⟨⟨va,rfl,hO,hF⟩,hC2⟩
 refine ⟨_,rfl,?_⟩
 obtain ⟨A,c',rfl,hcap⟩:=RdS.form hO.rd
 unfold tokV
 have hb82:=hb8.no hC2
 refine zP rfl (zP rfl (zP rfl ?_))
 refine zAl (fun u3 b11 hN3=> ?_)
 have hb11:Blk u3 b11 66 [.int .i64 0,.string ⟨#[]⟩,nS,.bool false,.string ⟨#[]⟩]:=hN3.blk
 refine z_store (want_L rfl) rfl rfl rfl (by assumption) (by first|exact Nat.le_refl _|simp [Value.cells]) (by simp [Value.cells,Value.oneCell']) (fun u4 hU4=> ?_)
 have hb114:Blk u4 b11 66 [.int .i64 1,.string (bs nm),.slice A al.length c',.bool false,.string (bs [])]:=hU4.blk
 have hX4:Chg u2 u4 No:=hN3.chg.upd hU4 (hN3.ge (Chg.refl _ No))
 have hb84:=hb82.no hX4
 have hO4:=hO.no hX4
 have hne:b8≠b11:=by have h1:=hN3.at_;have h2:=hb82.lt;omega
 refine zz ?_
 refine zc_draw [] (fun w'=>Blk w' b11 66 [.int .i64 1,.string (bs nm),.slice A al.length c',.bool false,.string (bs [])]) (.take 0 (.take 1 (.take 2 (.take 3 (.take 4 (.all1 5 (.take 6 (.take 7 (.fin))))))))) (by rfl) (by kernel_rfl) (by kernel_rfl) (fun u5 hC5 _=>⟨?_,?_⟩)
 ·exact hb114.no hC5
 have hb115:=hb114.no hC5
 have hb85:=hb84.no hC5
 have hO5:=hO4.no hC5
 refine zz ?_
 refine zs_store rfl (want_L rfl) rfl rfl rfl (by assumption) (by first|exact Nat.le_refl _|simp [Value.cells]) (by simp [Value.cells,Value.oneCell']) (fun u6 hU6=>⟨hb115.chg hU6.chg hne.symm,?_⟩)
 have hb86:Blk u6 b8 66 [.int .i64 1,.string (bs nm),.slice A al.length c',.bool false,.string (bs [])]:=hU6.blk
 have hO6:=hO5.upd hU6 (by decide)
 have hC4:Chg w u4 No:=(hN1.chg.no hC2).no hX4
 refine zz ?_
 exact zk_retCTT (.inr rfl) rfl rfl rfl rfl hb86 rfl ⟨⟨.slice A al.length c',rfl,hO6,fun k hk=>by have:=hF k hk;have:=hN1.chg.size;omega⟩,(hC4.no hC5).upd hU6 hge8⟩
theorem stepE_calls {w:World} (s nm r:List UInt8) (p:Nat) (hs:s.drop p=60::47::(nm++62::r)) (hn:NmOk nm) (hl:s.length≤1000000000):
  Calls Tryz.prog 44 [.string (bs s),.int .i64 (p:Nat),.int .i64 0,.string (bs [])].toArray w fun e w'=>e= .returned (.tuple #[tokV 2 nm nS [],.int .i64 ((p+nm.length+3:Nat):Int),.bool true])∧Chg w w' No:=by
 obtain ⟨hn0,hlo,c,q,hcq,hc⟩:=hn
 have hs1:s.drop p=60::47::c::(q++62::r):=by rw [hs,hcq];rfl
 refine zCz 171 Tryz.func44 ?_
 refine zS (zR ?_)
 refine zAl (fun w1 b8 hN1=> ?_)
 have hb8:Blk w1 b8 66 [.int .i64 0,.string ⟨#[]⟩,nS,.bool false,.string ⟨#[]⟩]:=hN1.blk
 have hge8:w.heap.size≤b8:=hN1.ge (Chg.refl _ No)
 refine zz ?_
 refine zCp rfl (atE_calls s _ c p hs1 hc hl) ?_
 refine zz ?_
 refine zCr rfl (readE_calls s nm r p hs hn0 hlo hl) fun u2 hC2=> ?_
 unfold tokV
 have hb82:=hb8.no hC2
 refine zP rfl (zP rfl (zP rfl ?_))
 refine zAl (fun u3 b11 hN3=> ?_)
 have hb11:Blk u3 b11 66 [.int .i64 0,.string ⟨#[]⟩,nS,.bool false,.string ⟨#[]⟩]:=hN3.blk
 refine z_store (want_L rfl) rfl rfl rfl (by assumption) (by first|exact Nat.le_refl _|simp [Value.cells]) (by simp [Value.cells,Value.oneCell']) (fun u4 hU4=> ?_)
 have hb114:Blk u4 b11 66 [.int .i64 2,.string (bs nm),nS,.bool false,.string (bs [])]:=hU4.blk
 have hX4:Chg u2 u4 No:=hN3.chg.upd hU4 (hN3.ge (Chg.refl _ No))
 have hb84:=hb82.no hX4
 have hne:b8≠b11:=by have h1:=hN3.at_;have h2:=hb82.lt;omega
 refine zz ?_
 refine zc_draw [] (fun w'=>Blk w' b11 66 [.int .i64 2,.string (bs nm),nS,.bool false,.string (bs [])]) (.take 0 (.take 1 (.take 2 (.take 3 (.take 4 (.all1 5 (.take 6 (.take 7 (.fin))))))))) (by rfl) (by kernel_rfl) (by kernel_rfl) (fun u5 hC5 _=>⟨?_,?_⟩)
 ·exact hb114.no hC5
 have hb115:=hb114.no hC5
 have hb85:=hb84.no hC5
 refine zz ?_
 refine zs_store rfl (want_L rfl) rfl rfl rfl (by assumption) (by first|exact Nat.le_refl _|simp [Value.cells]) (by simp [Value.cells,Value.oneCell']) (fun u6 hU6=>⟨hb115.chg hU6.chg hne.symm,?_⟩)
 have hb86:Blk u6 b8 66 [.int .i64 2,.string (bs nm),nS,.bool false,.string (bs [])]:=hU6.blk
 have hC4:Chg w u4 No:=(hN1.chg.no hC2).no hX4
 refine zz ?_
 exact zk_retCTT (.inr rfl) rfl rfl rfl rfl hb86 rfl ⟨rfl,(hC4.no hC5).upd hU6 hge8⟩
theorem stepT_calls {w:World} (s v r:List UInt8) (p:Nat) (hs:s.drop p=safeN false v++r) (hv:v≠ []) (hr:r.head? =none∨r.head? =some 60) (hl:s.length≤1000000000) (hvl:v.length≤1000000000):
  Calls Tryz.prog 44 [.string (bs s),.int .i64 (p:Nat),.int .i64 0,.string (bs [])].toArray w fun e w'=>e= .returned (.tuple #[tokV 3 [] nS v,.int .i64 ((p+(safeN false v).length:Nat):Int),.bool true])∧Chg w w' No:=by
 have hbig:big=1000000000000:=rfl
 obtain ⟨e0,k0,_,_,h3,h4,_⟩:=safe_step false v hv
 have hsn:safeN false v≠ []:=by rw [h3];intro hq;exact h4 (List.append_eq_nil_iff.mp hq).1
 have hsl:=drop_lt hs (by intro hq;exact hsn (List.append_eq_nil_iff.mp hq).1)
 simp only [List.length_append] at hsl
 have ht1:1≤(safeN false v).length:=List.length_pos_iff.mpr hsn
 have hno: ∀j,j<(safeN false v).length→Z.byteL (s.drop p) j≠60:=fun j hj hq=>by
  have h5:=zbyte_app hs j hj
  have h6:Z.byteL s (p+j)=Z.byteL (s.drop p) j:=by unfold Z.byteL;rw [List.getD_eq_getElem?_getD,List.getD_eq_getElem?_getD,List.getElem?_drop]
  rw [h6,hq] at h5
  refine safe_lt false v ?_
  have h7:(safeN false v).getD j 0=60:=by rw [←UInt8.toNat_inj];exact h5.symm
  rw [←h7]
  exact getB_mem _ j hj
 obtain ⟨x,hx⟩: ∃x,x=s.drop p:=⟨_,rfl⟩
 have hxl:x.length=(safeN false v).length+r.length:=by rw [hx,hs,List.length_append]
 have hcut:(s.drop p).take (s.length - p)=x:=by rw [←hx,List.take_of_length_le (by omega)]
 have hx0:x.getD 0 0≠60:=fun hq=>hno 0 (by omega) (by rw [←hx];unfold Z.byteL;rw [hq];rfl)
 have hb0:Z.byteL s p≠60:=by
  have h6:Z.byteL s p=Z.byteL (s.drop p) 0:=by unfold Z.byteL;rw [List.getD_eq_getElem?_getD,List.getD_eq_getElem?_getD,List.getElem?_drop];rfl
  rw [h6];exact hno 0 (by omega)
 have hbe:(safeN false v).length<x.length→Z.byteL x (safeN false v).length=60:=fun hlt=>by
  have h8:=drop_app hs
  obtain ⟨c,q,hcq⟩: ∃c q,r=c::q:=by
   cases r with
   |nil=>simp at hxl;omega
   |cons c q=>exact ⟨c,q,rfl⟩
  have hc:c=60:=by rw [hcq] at hr;simpa using hr
  rw [hcq] at h8
  have h9:=zbyte_drop h8
  rw [hx]
  have h6:Z.byteL s (p+(safeN false v).length)=Z.byteL (s.drop p) (safeN false v).length:=by unfold Z.byteL;rw [List.getD_eq_getElem?_getD,List.getD_eq_getElem?_getD,List.getElem?_drop]
  rw [←h6,h9,hc];rfl
 have hxt:x.take (safeN false v).length=safeN false v:=by rw [hx,hs,List.take_left]
 refine zCz 171 Tryz.func44 ?_
 refine zS (zR ?_)
 refine zAl (fun w1 b8 hN1=> ?_)
 have hb8:Blk w1 b8 66 [.int .i64 0,.string ⟨#[]⟩,nS,.bool false,.string ⟨#[]⟩]:=hN1.blk
 have hge8:w.heap.size≤b8:=hN1.ge (Chg.refl _ No)
 refine zz ?_
 refine zCp rfl (atT_calls s p (by omega) hb0 hl) ?_
 refine zz ?_
 refine z_cutN p s.length (want_L rfl) (by decide) rfl rfl rfl rfl rfl (by omega) (Nat.le_refl _) ?_
 rw [hcut]
 refine zz ?_
 refine zCp rfl (begins_calls x [60,33,45,45] (by omega) (by decide)) ?_
 rw [beg_no x _ hx0 rfl]
 refine zz ?_
 by_cases h9:9≤x.length
 ·have hx9:(x.take 9).getD 0 0≠60:=by
   rw [List.getD_eq_getElem?_getD,List.getElem?_take_of_lt (by decide),←List.getD_eq_getElem?_getD];exact hx0
  refine zz ?_
  refine z_cutN 0 9 (want_L rfl) (by decide) rfl rfl rfl rfl rfl (Nat.zero_le _) (by omega) ?_
  rw [List.drop_zero,Nat.sub_zero]
  refine zCl rfl (foldW_calls (x.take 9) (by rw [List.length_take];omega) hx9) ?_
  rintro _ u2 ⟨⟨l',rfl,hl'⟩,hC2⟩
  refine ⟨_,rfl,?_⟩
  refine zEq rfl rfl (fun hq=>absurd (by rw [hq];rfl) hl') (fun hq=> ?_)
  have hb82:=hb8.no hC2
  have hCw:=hN1.chg.no hC2
  refine zz ?_
  refine zCp rfl (begins_calls x [60,33] (by omega) (by decide)) ?_
  rw [beg_no x _ hx0 rfl]
  refine zz ?_
  refine zCp rfl (begins_calls x [60,63] (by omega) (by decide)) ?_
  rw [beg_no x _ hx0 rfl]
  refine zz ?_
  refine zCp rfl (begins_calls x [60,47,62] (by omega) (by decide)) ?_
  rw [beg_no x _ hx0 rfl]
  refine zz ?_
  refine zCp rfl (begins_calls x [60,47] (by omega) (by decide)) ?_
  rw [beg_no x _ hx0 rfl]
  refine zz ?_
  refine zEq rfl rfl (fun hq=>absurd (by rw [hq];rfl) hx0) (fun hq=> ?_)
  refine zz ?_
  refine zc_loopW (ι:=Nat) (fun i u=> [(0,.string (bs s)),(1,.int .i64 (p:Nat)),(8,.pointer (some ⟨b8,0,none⟩)),(13,.string (bs x)),(18,.int .i64 (i:Nat))]) (fun i u=>1≤i∧i≤(safeN false v).length∧u=u2) (fun i u=>(safeN false v).length - i) 1 ⟨Nat.le_refl _,ht1,rfl⟩ ⟨rfl,rfl,rfl,rfl,rfl,trivial⟩ ?_
  rintro i u ⟨hi1,hi2,hu⟩
  obtain rfl:=hu.symm
  by_cases hlt:i<(safeN false v).length
  ·have hni:Z.byteL x i≠60:=by rw [hx];exact hno i hlt
   refine zz ?_
   exact zk_loopW (i+1) ⟨by omega,by omega,rfl⟩ (by omega) ⟨rfl,rfl,rfl,rfl,get_int rfl (by simp),trivial⟩
  obtain rfl:i=(safeN false v).length:=by omega
  by_cases hlx:(safeN false v).length<x.length
  ·have hni:=hbe hlx
   refine zz ?_
   refine z_cutN 0 (safeN false v).length (want_L rfl) (by decide) rfl rfl rfl rfl rfl (Nat.zero_le _) (by omega) ?_
   rw [List.drop_zero,Nat.sub_zero,hxt]
   refine zCr rfl (expand_calls false v false (by omega) hvl) fun u3 hC3=> ?_
   refine z_buildE #[.int .i64 3,.string (bs []),nS,.bool false,.string (bs v)] (want_L rfl) (by decide) rfl (by kernel_rfl) ?_
   have hb83:=hb82.no hC3
   refine zz ?_
   refine z_store (want_L rfl) rfl rfl rfl (by assumption) (by first|exact Nat.le_refl _|simp [Value.cells]) (by simp [Value.cells,Value.oneCell']) (fun u4 hU4=> ?_)
   have hb84:Blk u4 b8 66 [.int .i64 3,.string (bs []),nS,.bool false,.string (bs v)]:=hU4.blk
   refine zz ?_
   refine zk_retCTT (.inr rfl) rfl rfl rfl rfl hb84 rfl ⟨?_,(hCw.no hC3).upd hU4 hge8⟩
   rw [Int.natCast_add];rfl
  ·skip
   refine zz ?_
   refine z_cutN 0 (safeN false v).length (want_L rfl) (by decide) rfl rfl rfl rfl rfl (Nat.zero_le _) (by omega) ?_
   rw [List.drop_zero,Nat.sub_zero,hxt]
   refine zCr rfl (expand_calls false v false (by omega) hvl) fun u3 hC3=> ?_
   refine z_buildE #[.int .i64 3,.string (bs []),nS,.bool false,.string (bs v)] (want_L rfl) (by decide) rfl (by kernel_rfl) ?_
   have hb83:=hb82.no hC3
   refine zz ?_
   refine z_store (want_L rfl) rfl rfl rfl (by assumption) (by first|exact Nat.le_refl _|simp [Value.cells]) (by simp [Value.cells,Value.oneCell']) (fun u4 hU4=> ?_)
   have hb84:Blk u4 b8 66 [.int .i64 3,.string (bs []),nS,.bool false,.string (bs v)]:=hU4.blk
   refine zz ?_
   refine zk_retCTT (.inr rfl) rfl rfl rfl rfl hb84 rfl ⟨?_,(hCw.no hC3).upd hU4 hge8⟩
   rw [Int.natCast_add];rfl
 ·skip
  refine zz ?_
  refine zCp rfl (begins_calls x [60,33] (by omega) (by decide)) ?_
  rw [beg_no x _ hx0 rfl]
  refine zz ?_
  refine zCp rfl (begins_calls x [60,63] (by omega) (by decide)) ?_
  rw [beg_no x _ hx0 rfl]
  refine zz ?_
  refine zCp rfl (begins_calls x [60,47,62] (by omega) (by decide)) ?_
  rw [beg_no x _ hx0 rfl]
  refine zz ?_
  refine zCp rfl (begins_calls x [60,47] (by omega) (by decide)) ?_
  rw [beg_no x _ hx0 rfl]
  refine zz ?_
  refine zEq rfl rfl (fun hq=>absurd (by rw [hq];rfl) hx0) (fun hq=> ?_)
  refine zz ?_
  refine zc_loopW (ι:=Nat) (fun i u=> [(0,.string (bs s)),(1,.int .i64 (p:Nat)),(8,.pointer (some ⟨b8,0,none⟩)),(13,.string (bs x)),(18,.int .i64 (i:Nat))]) (fun i u=>1≤i∧i≤(safeN false v).length∧u=w1) (fun i u=>(safeN false v).length - i) 1 ⟨Nat.le_refl _,ht1,rfl⟩ ⟨rfl,rfl,rfl,rfl,rfl,trivial⟩ ?_
  rintro i u ⟨hi1,hi2,hu⟩
  obtain rfl:=hu.symm
  by_cases hlt:i<(safeN false v).length
  ·have hni:Z.byteL x i≠60:=by rw [hx];exact hno i hlt
   refine zz ?_
   exact zk_loopW (i+1) ⟨by omega,by omega,rfl⟩ (by omega) ⟨rfl,rfl,rfl,rfl,get_int rfl (by simp),trivial⟩
  obtain rfl:i=(safeN false v).length:=by omega
  by_cases hlx:(safeN false v).length<x.length
  ·have hni:=hbe hlx
   refine zz ?_
   refine z_cutN 0 (safeN false v).length (want_L rfl) (by decide) rfl rfl rfl rfl rfl (Nat.zero_le _) (by omega) ?_
   rw [List.drop_zero,Nat.sub_zero,hxt]
   refine zCr rfl (expand_calls false v false (by omega) hvl) fun u3 hC3=> ?_
   refine z_buildE #[.int .i64 3,.string (bs []),nS,.bool false,.string (bs v)] (want_L rfl) (by decide) rfl (by kernel_rfl) ?_
   have hb83:=hb8.no hC3
   refine zz ?_
   refine z_store (want_L rfl) rfl rfl rfl (by assumption) (by first|exact Nat.le_refl _|simp [Value.cells]) (by simp [Value.cells,Value.oneCell']) (fun u4 hU4=> ?_)
   have hb84:Blk u4 b8 66 [.int .i64 3,.string (bs []),nS,.bool false,.string (bs v)]:=hU4.blk
   refine zz ?_
   refine zk_retCTT (.inr rfl) rfl rfl rfl rfl hb84 rfl ⟨?_,(hN1.chg.no hC3).upd hU4 hge8⟩
   rw [Int.natCast_add];rfl
  ·skip
   refine zz ?_
   refine z_cutN 0 (safeN false v).length (want_L rfl) (by decide) rfl rfl rfl rfl rfl (Nat.zero_le _) (by omega) ?_
   rw [List.drop_zero,Nat.sub_zero,hxt]
   refine zCr rfl (expand_calls false v false (by omega) hvl) fun u3 hC3=> ?_
   refine z_buildE #[.int .i64 3,.string (bs []),nS,.bool false,.string (bs v)] (want_L rfl) (by decide) rfl (by kernel_rfl) ?_
   have hb83:=hb8.no hC3
   refine zz ?_
   refine z_store (want_L rfl) rfl rfl rfl (by assumption) (by first|exact Nat.le_refl _|simp [Value.cells]) (by simp [Value.cells,Value.oneCell']) (fun u4 hU4=> ?_)
   have hb84:Blk u4 b8 66 [.int .i64 3,.string (bs []),nS,.bool false,.string (bs v)]:=hU4.blk
   refine zz ?_
   refine zk_retCTT (.inr rfl) rfl rfl rfl rfl hb84 rfl ⟨?_,(hN1.chg.no hC3).upd hU4 hge8⟩
   rw [Int.natCast_add];rfl
theorem next_of {w:World} (s nm tx:List UInt8) (p to:Nat) (k:Int) (R:Value→World→Prop) (hp:p<s.length) (hl:s.length≤1000000000) (hU: ∀v u u' b cs,R v u→Upd u u' b 66 cs→R v u') (hN: ∀v u u',R v u→Chg u u' No→R v u')
  (hst: ∀w0,Chg w w0 No→Calls Tryz.prog 44 [.string (bs s),.int .i64 (p:Nat),.int .i64 0,.string (bs [])].toArray w0 fun e w'=>(∃A m c,e= .returned (.tuple #[tokV k nm (.slice A m c) tx,.int .i64 (to:Nat),.bool true])∧R (.slice A m c) w')∧Chg w0 w' No):
  Calls Tryz.prog 23 [.string (bs s),.int .i64 (p:Nat),.int .i64 0,.string (bs [])].toArray w fun e w'=>(∃A m c,e= .returned (.tuple #[tokV k nm (.slice A m c) tx,.int .i64 (to:Nat)])∧R (.slice A m c) w')∧Chg w w' No:=by
 refine zCz 33 Tryz.func23 ?_
 refine zS (zR ?_)
 refine zAl (fun w1 b8 hN1=> ?_)
 have hb8:Blk w1 b8 66 [.int .i64 0,.string ⟨#[]⟩,nS,.bool false,.string ⟨#[]⟩]:=hN1.blk
 have hge8:w.heap.size≤b8:=hN1.ge (Chg.refl _ No)
 refine zz ?_
 refine zc_loopW (ι:=Unit) (fun _ u=> [(0,.string (bs s)),(1,.int .i64 (p:Nat)),(2,.int .i64 0),(3,.string (bs [])),(8,.pointer (some ⟨b8,0,none⟩))]) (fun _ v=>v=w1) (fun _ u=>0) () rfl ⟨rfl,rfl,rfl,rfl,rfl,trivial⟩ ?_
 rintro _ v hv
 obtain rfl:=hv.symm
 refine zz ?_
 refine zCl rfl (hst w1 hN1.chg) ?_
 rintro _ u2 ⟨⟨A,m,c,rfl,hR⟩,hC2⟩
 refine ⟨_,rfl,?_⟩
 unfold tokV
 have hb82:=hb8.no hC2
 refine zP rfl (zP rfl (zP rfl (zP rfl ?_)))
 refine zAl (fun u3 b10 hN3=> ?_)
 have hb103:Blk u3 b10 66 [.int .i64 0,.string ⟨#[]⟩,nS,.bool false,.string ⟨#[]⟩]:=hN3.blk
 refine z_store (want_L rfl) rfl rfl rfl (by assumption) (by first|exact Nat.le_refl _|simp [Value.cells]) (by simp [Value.cells,Value.oneCell']) (fun u4 hU4=> ?_)
 have hb104:Blk u4 b10 66 [.int .i64 k,.string (bs nm),.slice A m c,.bool false,.string (bs tx)]:=hU4.blk
 have hX4:Chg u2 u4 No:=hN3.chg.upd hU4 (hN3.ge (Chg.refl _ No))
 have hb84:=hb82.no hX4
 have hR4:=hN _ _ _ hR hX4
 refine zz ?_
 refine z_store (want_L rfl) rfl rfl rfl (by assumption) (by first|exact Nat.le_refl _|simp [Value.cells]) (by simp [Value.cells,Value.oneCell']) (fun u5 hU5=> ?_)
 have hb85:Blk u5 b8 66 [.int .i64 k,.string (bs nm),.slice A m c,.bool false,.string (bs tx)]:=hU5.blk
 have hR5:=hU _ _ _ _ _ hR4 hU5
 refine zz ?_
 exact zk_retCT (.inr rfl) rfl rfl rfl hb85 rfl ⟨⟨A,m,c,rfl,hR5⟩,((hN1.chg.no hC2).no hX4).upd hU5 hge8⟩
theorem next0_calls {w:World} (s:List UInt8) (hl:s.length≤1000000000):Calls Tryz.prog 23 [.string (bs s),.int .i64 (s.length:Nat),.int .i64 0,.string (bs [])].toArray w fun e w'=>e= .returned (.tuple #[tokV 5 [] nS [],.int .i64 (s.length:Nat)])∧Chg w w' No:=by
 refine zCz 33 Tryz.func23 ?_
 refine zS (zR ?_)
 refine zAl (fun w1 b8 hN1=> ?_)
 have hb8:Blk w1 b8 66 [.int .i64 0,.string ⟨#[]⟩,nS,.bool false,.string ⟨#[]⟩]:=hN1.blk
 have hge8:w.heap.size≤b8:=hN1.ge (Chg.refl _ No)
 refine zz ?_
 refine zc_loopW (ι:=Unit) (fun _ u=> [(0,.string (bs s)),(1,.int .i64 (s.length:Nat)),(2,.int .i64 0),(3,.string (bs [])),(8,.pointer (some ⟨b8,0,none⟩))]) (fun _ v=>v=w1) (fun _ u=>0) () rfl ⟨rfl,rfl,rfl,rfl,rfl,trivial⟩ ?_
 rintro _ v hv
 obtain rfl:=hv.symm
 refine zz ?_
 refine z_buildE #[.int .i64 5,.string (bs []),nS,.bool false,.string (bs [])] (want_L rfl) (by decide) rfl (by kernel_rfl) ?_
 refine zP rfl (zLL rfl ?_)
 refine z_store (want_L rfl) rfl rfl rfl (by assumption) (by first|exact Nat.le_refl _|simp [Value.cells]) (by simp [Value.cells,Value.oneCell']) (fun u5 hU5=> ?_)
 have hb85:Blk u5 b8 66 [.int .i64 5,.string (bs []),nS,.bool false,.string (bs [])]:=hU5.blk
 refine zz ?_
 exact zk_retCT (.inr rfl) rfl rfl rfl hb85 rfl ⟨rfl,hN1.chg.upd hU5 hge8⟩
def AtR (w0:World) (al:List At) (v:Value) (w:World):Prop:=Own w 45 2 v al.length (encA al)∧ ∀k,v.ownBlock=some k→w0.heap.size≤k
theorem nextS_calls {w:World} (s nm r:List UInt8) (al:List At) (p:Nat) (hs:s.drop p=60::(nm++(attrsS al++62::r))) (hn:NmOk nm) (ha:AtOk al) (hl:s.length≤1000000000):
  Calls Tryz.prog 23 [.string (bs s),.int .i64 (p:Nat),.int .i64 0,.string (bs [])].toArray w fun e w'=>(∃A m c,e= .returned (.tuple #[tokV 1 nm (.slice A m c) [],.int .i64 ((p+nm.length+(attrsS al).length+2:Nat):Int)])∧AtR w al (.slice A m c) w')∧Chg w w' No:=by
 have hsl:=drop_lt hs (by simp)
 simp only [List.length_cons] at hsl
 refine next_of s nm [] p (p+nm.length+(attrsS al).length+2) 1 (AtR w al) (by omega) hl (fun v u u' b cs h hu=>⟨h.1.upd hu (by decide),h.2⟩) (fun v u u' h hc=>⟨h.1.no hc,h.2⟩) (fun w0 hC0=> ?_)
 refine (stepS_calls s nm r al p hs hn ha hl).mono ?_
 rintro e w' ⟨⟨va,rfl,hO,hF⟩,hC⟩
 obtain ⟨A,c,rfl,_⟩:=RdS.form hO.rd
 exact ⟨⟨A,al.length,c,rfl,hO,fun k hk=>by have:=hF k hk;have:=hC0.size;omega⟩,hC⟩
theorem nextE_calls {w:World} (s nm r:List UInt8) (p:Nat) (hs:s.drop p=60::47::(nm++62::r)) (hn:NmOk nm) (hl:s.length≤1000000000):
  Calls Tryz.prog 23 [.string (bs s),.int .i64 (p:Nat),.int .i64 0,.string (bs [])].toArray w fun e w'=>e= .returned (.tuple #[tokV 2 nm nS [],.int .i64 ((p+nm.length+3:Nat):Int)])∧Chg w w' No:=by
 have hsl:=drop_lt hs (by simp)
 simp only [List.length_cons] at hsl
 refine (next_of s nm [] p (p+nm.length+3) 2 (fun v _=>v=nS) (by omega) hl (fun v u u' b cs h hu=>h) (fun v u u' h hc=>h) (fun w0 hC0=> ?_)).mono ?_
 ·refine (stepE_calls s nm r p hs hn hl).mono ?_
  rintro e w' ⟨rfl,hC⟩
  exact ⟨⟨none,0,0,rfl,rfl⟩,hC⟩
 ·rintro e w' ⟨⟨A,m,c,rfl,hv⟩,hC⟩
  exact ⟨by rw [hv],hC⟩
theorem nextT_calls {w:World} (s v r:List UInt8) (p:Nat) (hs:s.drop p=safeN false v++r) (hv:v≠ []) (hr:r.head? =none∨r.head? =some 60) (hl:s.length≤1000000000) (hvl:v.length≤1000000000):
  Calls Tryz.prog 23 [.string (bs s),.int .i64 (p:Nat),.int .i64 0,.string (bs [])].toArray w fun e w'=>e= .returned (.tuple #[tokV 3 [] nS v,.int .i64 ((p+(safeN false v).length:Nat):Int)])∧Chg w w' No:=by
 obtain ⟨e0,k0,_,_,h3,h4,_⟩:=safe_step false v hv
 have hsn:safeN false v≠ []:=by rw [h3];intro hq;exact h4 (List.append_eq_nil_iff.mp hq).1
 have hsl:=drop_lt hs (by intro hq;exact hsn (List.append_eq_nil_iff.mp hq).1)
 have ht1:1≤(safeN false v).length:=List.length_pos_iff.mpr hsn
 simp only [List.length_append] at hsl
 refine (next_of s [] v p (p+(safeN false v).length) 3 (fun v _=>v=nS) (by omega) hl (fun v u u' b cs h hu=>h) (fun v u u' h hc=>h) (fun w0 hC0=> ?_)).mono ?_
 ·refine (stepT_calls s v r p hs hv hr hl hvl).mono ?_
  rintro e w' ⟨rfl,hC⟩
  exact ⟨⟨none,0,0,rfl,rfl⟩,hC⟩
 ·rintro e w' ⟨⟨A,m,c,rfl,hv⟩,hC⟩
  exact ⟨by rw [hv],hC⟩
end Go.Proofs.YtbcmiijollpgeaaGreat.T
namespace Go.Z
open Go
theorem z_max {P:Program} {n:Nat} {e:Env} {w:World} {Q:Exit→Act→World→Prop} {ops:Array Oper} {rest:List Oper} {d:Tmp} {ty:TypeId} {pos:String} {aft:Array Edge} {g:Option (Nat×Bool)} {x y:Operand} {k:IntKind} {a b:Int} {ats:Array TypeId} (c:Int)
  (hw:Want ops e g) (hdn:d<n) (hx:ev e x=some (.int k a)) (hy:ev e y=some (.int k b)) (hc:c=if b>a then b else a) (h:ZL P n ops rest ((d,.int k c)::e) w Q):ZL P n ops (⟨some d,.call {callee:= .builtin .max,args:= #[x,y],argTypes:=ats},ty,pos,aft,g⟩::rest) e w Q:=
 zl_run hw rfl hdn (r_max hx hy hc) h
end Go.Z
namespace Go.Proofs.YtbcmiijollpgeaaGreat.D
open Go Go.Z Go.Proofs
abbrev At:=ByteArray×ByteArray
def at0:At:=(⟨#[]⟩,⟨#[]⟩)
def encA:List At→List Value
 | []=> []
 |m::r=> .string m.1:: .string m.2::encA r
theorem encA_get: ∀(l:List At) (i:Nat),i<l.length→(encA l)[i*2]? =some (.string (l.getD i at0).1)∧(encA l)[i*2+1]? =some (.string (l.getD i at0).2)
 | [],i,h=>by simp at h
 |m::l,0,h=>by simp [encA]
 |m::l,i+1,h=>by
  have:=encA_get l i (by simpa using h)
  simpa [encA,show (i+1)*2=i*2+1+1 by omega,show i*2+1+1+1=(i*2+1)+1+1 by omega] using this
def AttrS (w:World) (v:Value) (l:List At):Prop:=RdS w 45 2 v l.length (encA l)
theorem AttrS.form {w:World} {v:Value} {l:List At} (h:AttrS w v l): ∃A c,v= .slice A l.length c∧l.length≤c:=RdS.form h
theorem AttrS.no {w w':World} {v:Value} {l:List At} (h:AttrS w v l) (hc:Chg w w' No):AttrS w' v l:=RdS.no h hc
theorem AttrS.nil (w:World):AttrS w (.slice none 0 0) []:=RdS.nil
theorem AttrS.at_ {w:World} {v:Value} {l:List At} (h:AttrS w v l) (i:Nat) (hi:i<l.length): ∃b o c,v= .slice (some ⟨b,o,none⟩) l.length c∧w.cell? ⟨b,o+i*2,none⟩=some (.string (l.getD i at0).1)∧w.cell? ⟨b,o+i*2+1,none⟩=some (.string (l.getD i at0).2):=by
 obtain ⟨b,o,c,hv,_,hc⟩:=RdS.some h (by omega)
 obtain ⟨e1,e2⟩:=encA_get l i hi
 exact ⟨b,o,c,hv,hc _ _ e1,by have:=hc _ _ e2;rwa [←Nat.add_assoc] at this⟩
structure Hd where
 kind:Int
 space:Int
 name:ByteArray
 attrs:List At
 text:ByteArray
 fr:Int
inductive NT where
 |nil
 |cons (x:Hd) (kids rest:NT)
def NT.len:NT→Nat
 | .nil=>0
 | .cons _ _ r=>r.len+1
def NT.size:NT→Nat
 | .nil=>0
 | .cons _ k r=>k.size+r.size+1
def NT.dropN:Nat→NT→NT
 |0,t=>t
 |_+1,.nil=> .nil
 |i+1,.cons _ _ r=>r.dropN i
theorem NT.len_size: ∀t:NT,t.len≤t.size
 | .nil=>Nat.le_refl _
 | .cons _ k r=>by have:=r.len_size;simp only [NT.len,NT.size];omega
theorem NT.drop_len: ∀t:NT,t.dropN t.len= .nil
 | .nil=>rfl
 | .cons _ k r=>r.drop_len
theorem NT.drop_size: ∀(t:NT) (i:Nat),(t.dropN i).size≤t.size
 |t,0=>Nat.le_refl _
 | .nil,i+1=>Nat.le_refl _
 | .cons _ k r,i+1=>by have:=r.drop_size i;simp only [NT.dropN,NT.size];omega
theorem NT.drop_succ: ∀(t:NT) (i:Nat) (x:Hd) (k r:NT),t.dropN i= .cons x k r→t.dropN (i+1)=r
 | .nil,0,x,k,r,h=>by cases h
 | .cons _ _ _,0,x,k,r,h=>by cases h;rfl
 | .nil,i+1,x,k,r,h=>by cases h
 | .cons _ _ q,i+1,x,k,r,h=>NT.drop_succ q i x k r h
theorem NT.drop_lt: ∀(t:NT) (i:Nat),i<t.len→ ∃x k r,t.dropN i= .cons x k r
 | .nil,i,h=>by simp [NT.len] at h
 | .cons x k r,0,h=>⟨x,k,r,rfl⟩
 | .cons x k r,i+1,h=>r.drop_lt i (by simp only [NT.len] at h;omega)
structure MN where
 kind:Int
 space:Int
 name:ByteArray
 attrs:Value
 text:ByteArray
 fr:Int
 kids:Value
def MN.z:MN:=⟨0,0,⟨#[]⟩,.slice none 0 0,⟨#[]⟩,0,.slice none 0 0⟩
def MN.cells (m:MN):List Value:= [.int .i64 m.kind,.int .i64 m.space,.string m.name,m.attrs,.string m.text,.int .i64 m.fr,m.kids]
def encN:List MN→List Value
 | []=> []
 |m::r=> .int .i64 m.kind:: .int .i64 m.space:: .string m.name::m.attrs:: .string m.text:: .int .i64 m.fr::m.kids::encN r
theorem encN_len: ∀l:List MN,(encN l).length=l.length*7
 | []=>rfl
 |m::r=>by simp [encN,encN_len r];omega
theorem encN_app: ∀l r:List MN,encN (l++r)=encN l++encN r
 | [],r=>rfl
 |m::l,r=>by simp [encN,encN_app l r]
theorem encN_get: ∀(l:List MN) (i:Nat),i<l.length→ ∀j u,(l.getD i MN.z).cells[j]? =some u→(encN l)[i*7+j]? =some u
 | [],i,h,j,u,hu=>by simp at h
 |m::l,0,h,j,u,hu=>by
  have hj:j<7:=(List.getElem?_eq_some_iff.1 hu).1
  simp only [List.getD_cons_zero] at hu
  match j,hj with
  |0,_|1,_|2,_|3,_|4,_|5,_|6,_=>simpa [encN,MN.cells] using hu
 |m::l,i+1,h,j,u,hu=>by
  have:=encN_get l i (by simpa using h) j u (by simpa using hu)
  rw [show (i+1)*7+j=i*7+j+1+1+1+1+1+1+1 by omega]
  simpa [encN] using this
def HR (w:World) (m:MN) (x:Hd):Prop:=m.kind=x.kind∧m.space=x.space∧m.name=x.name∧AttrS w m.attrs x.attrs∧m.text=x.text∧m.fr=x.fr
def Rows (w:World):NT→List MN→Prop
 | .nil,ms=>ms= []
 | .cons x k r,ms=> ∃m q,ms=m::q∧HR w m x∧(∃ks,RdS w 80 7 m.kids ks.length (encN ks)∧Rows w k ks)∧Rows w r q
def TreeAt (w:World) (v:Value) (t:NT):Prop:= ∃ms,RdS w 80 7 v ms.length (encN ms)∧Rows w t ms
section
variable {w w' : World} {v : Value} {t : NT}
theorem HR.no {m:MN} {x:Hd} (h:HR w m x) (hc:Chg w w' No):HR w' m x:=⟨h.1,h.2.1,h.2.2.1,h.2.2.2.1.no hc,h.2.2.2.2⟩
theorem Rows.no (hc:Chg w w' No): ∀(t:NT) (ms:List MN),Rows w t ms→Rows w' t ms
 | .nil,ms,h=>h
 | .cons x k r,ms,h=>by
  obtain ⟨m,q,h1,h2,⟨ks,h3,h4⟩,h5⟩:=h
  exact ⟨m,q,h1,h2.no hc,⟨ks,h3.no hc,Rows.no hc k ks h4⟩,Rows.no hc r q h5⟩
theorem Rows.len: ∀(t:NT) (ms:List MN),Rows w t ms→ms.length=t.len
 | .nil,ms,h=>by cases h;rfl
 | .cons x k r,ms,h=>by
  obtain ⟨m,q,h1,_,_,h5⟩:=h
  subst h1
  simp only [List.length_cons,NT.len,Rows.len r q h5]
theorem Rows.at_: ∀(t:NT) (ms:List MN) (i:Nat),Rows w t ms→i<t.len→ ∃x k r,t.dropN i= .cons x k r∧HR w (ms.getD i MN.z) x∧TreeAt w (ms.getD i MN.z).kids k
 | .nil,ms,i,h,hi=>by simp [NT.len] at hi
 | .cons x k r,ms,0,h,hi=>by
  obtain ⟨m,q,rfl,h2,h3,h5⟩:=h
  exact ⟨x,k,r,rfl,h2,h3⟩
 | .cons x k r,ms,i+1,h,hi=>by
  obtain ⟨m,q,rfl,h2,h3,h5⟩:=h
  exact Rows.at_ r q i h5 (by simp only [NT.len] at hi;omega)
theorem TreeAt.no (h:TreeAt w v t) (hc:Chg w w' No):TreeAt w' v t:=by
 obtain ⟨ms,h1,h2⟩:=h
 exact ⟨ms,h1.no hc,Rows.no hc t ms h2⟩
theorem TreeAt.form (h:TreeAt w v t): ∃A c,v= .slice A t.len c∧t.len≤c:=by
 obtain ⟨ms,h1,h2⟩:=h
 have:=h1.form
 rwa [Rows.len t ms h2] at this
structure NodeC (w:World) (b o:Nat) (x:Hd) (A K:Value):Prop where
 c0:w.cell? ⟨b,o,none⟩=some (.int .i64 x.kind)
 c1:w.cell? ⟨b,o+1,none⟩=some (.int .i64 x.space)
 c2:w.cell? ⟨b,o+2,none⟩=some (.string x.name)
 c3:w.cell? ⟨b,o+3,none⟩=some A
 c4:w.cell? ⟨b,o+4,none⟩=some (.string x.text)
 c5:w.cell? ⟨b,o+5,none⟩=some (.int .i64 x.fr)
 c6:w.cell? ⟨b,o+6,none⟩=some K
theorem TreeAt.at_ (h:TreeAt w v t) (i:Nat) (hi:i<t.len): ∃b o c x k r A K,t.dropN i= .cons x k r∧v= .slice (some ⟨b,o,none⟩) t.len c∧NodeC w b (o+i*7) x A K∧AttrS w A x.attrs∧TreeAt w K k:=by
 obtain ⟨ms,h1,h2⟩:=h
 have hlen:=Rows.len t ms h2
 obtain ⟨b,o,c,hv,_,hc⟩:=h1.some (by omega)
 obtain ⟨x,k,r,e1,⟨g0,g1,g2,g3,g4,g5⟩,e3⟩:=Rows.at_ t ms i h2 hi
 have hg:=encN_get ms i (by omega)
 refine ⟨b,o,c,x,k,r,(ms.getD i MN.z).attrs,(ms.getD i MN.z).kids,e1,by rw [hv,hlen],?_,g3,e3⟩
 constructor
 ·have:=hc _ _ (hg 0 _ rfl);rw [←g0];exact this
 ·have:=hc _ _ (hg 1 _ rfl);rw [←g1];rw [Nat.add_assoc];exact this
 ·have:=hc _ _ (hg 2 _ rfl);rw [←g2];rw [Nat.add_assoc];exact this
 ·have:=hc _ _ (hg 3 _ rfl);rw [Nat.add_assoc];exact this
 ·have:=hc _ _ (hg 4 _ rfl);rw [←g4];rw [Nat.add_assoc];exact this
 ·have:=hc _ _ (hg 5 _ rfl);rw [←g5];rw [Nat.add_assoc];exact this
 ·have:=hc _ _ (hg 6 _ rfl);rw [Nat.add_assoc];exact this
theorem cell_no {b o:Nat} {u:Value} (hc:Chg w w' No) (h:w.cell? ⟨b,o,none⟩=some u):w'.cell? ⟨b,o,none⟩=some u:=by
 have hlt:b<w.heap.size:=by
  rcases Nat.lt_or_ge b w.heap.size with h1|h1
  ·exact h1
  ·simp [World.cell?,Array.getElem?_eq_none h1] at h
 have:=hc.same b hlt id
 simp only [World.cell?,this] at h ⊢
 exact h
theorem NodeC.no {b o:Nat} {x:Hd} {A K:Value} (h:NodeC w b o x A K) (hc:Chg w w' No):NodeC w' b o x A K:=
 ⟨cell_no hc h.c0,cell_no hc h.c1,cell_no hc h.c2,cell_no hc h.c3,cell_no hc h.c4,cell_no hc h.c5,cell_no hc h.c6⟩
theorem agg7 {b o o':Nat} {v0 v1 v2 v3 v4 v5 v6:Value} (h0:w.cell? ⟨b,o',none⟩=some v0) (h1:w.cell? ⟨b,o'+1,none⟩=some v1) (h2:w.cell? ⟨b,o'+2,none⟩=some v2) (h3:w.cell? ⟨b,o'+3,none⟩=some v3) (h4:w.cell? ⟨b,o'+4,none⟩=some v4) (h5:w.cell? ⟨b,o'+5,none⟩=some v5) (h6:w.cell? ⟨b,o'+6,none⟩=some v6) (he:o=o'): ∀j u,[v0,v1,v2,v3,v4,v5,v6][j]? =some u→w.cell? ((⟨b,o,none⟩:Addr).add j)=some u:=by
 subst he;intro j u hj;rw [addr_add]
 match j,hj with
 |0,hj=>simp at hj;subst hj;exact h0
 |1,hj=>simp at hj;subst hj;exact h1
 |2,hj=>simp at hj;subst hj;exact h2
 |3,hj=>simp at hj;subst hj;exact h3
 |4,hj=>simp at hj;subst hj;exact h4
 |5,hj=>simp at hj;subst hj;exact h5
 |6,hj=>simp at hj;subst hj;exact h6
theorem NodeC.agg {b o o':Nat} {x:Hd} {A K:Value} (h:NodeC w b o' x A K) (he:o=o'): ∀j u,[Value.int .i64 x.kind,.int .i64 x.space,.string x.name,A,.string x.text,.int .i64 x.fr,K][j]? =some u→w.cell? ((⟨b,o,none⟩:Addr).add j)=some u:=agg7 h.c0 h.c1 h.c2 h.c3 h.c4 h.c5 h.c6 he
end
def deepT:NT→Nat
 | .nil=>0
 | .cons _ k r=>max (1+deepT k) (deepT r)
theorem deepT_le: ∀t:NT,deepT t≤t.size
 | .nil=>Nat.le_refl _
 | .cons _ k r=>by have:=deepT_le k;have:=deepT_le r;simp only [deepT,NT.size];omega
theorem deepR_calls: ∀(f:Nat) {w:World} {v:Value} {t:NT},TreeAt w v t→t.size≤f→f≤10000000→
  Calls Tryz.prog 27 [v].toArray w fun e w'=>e= .returned (.int .i64 (deepT t))∧Chg w w' No:=by
 intro f
 induction f with
 |zero=>
  intro w v t h hs _
  cases t with
  |cons x k r=>simp [NT.size] at hs
  |nil=>
   obtain ⟨A,c,rfl,hc⟩:=h.form
   refine zCz 21 Tryz.func27 ?_
   refine zz ?_
   refine zc_loopW (ι:=Nat) (fun i u=> [(0,.slice A 0 c),(3,.int .i64 0),(4,.int .i64 0)]) (fun i u=>u=w) (fun i u=>0) 0 rfl ?_ ?_
   ·exact ⟨rfl,rfl,rfl,trivial⟩
   rintro i u rfl
   refine zz ?_
   exact zk_ret1 (.inr rfl) rfl rfl ⟨rfl,Chg.refl _ _⟩
 |succ f ih=>
  intro w v t h hs hf
  obtain ⟨A,c,hv,hc⟩:=h.form
  have hls:=t.len_size
  subst hv
  refine zCz 21 Tryz.func27 ?_
  refine zz ?_
  refine zc_loopW (ι:=Nat×Nat) (fun q u=> [(0,.slice A t.len c),(3,.int .i64 q.2),(4,.int .i64 q.1)])
   (fun q u=>q.1≤t.len∧q.2≤t.size∧max q.2 (deepT (t.dropN q.1))=deepT t∧Chg w u No) (fun q u=>t.len - q.1) (0,0) ⟨Nat.zero_le _,Nat.zero_le _,Nat.zero_max _,Chg.refl _ _⟩ ?_ ?_
  ·exact ⟨rfl,rfl,rfl,trivial⟩
  rintro ⟨i,m⟩ u ⟨hi,hm,hd,hC⟩
  dsimp only at hi hm hd ⊢
  by_cases hlt:i<t.len
  ·obtain ⟨b,o,c',x,k,r,A',K,e1,hv,hN,hA,hK⟩:=(h.no hC).at_ i hlt
   cases hv
   have hsz:=t.drop_size i
   rw [e1] at hsz hd
   simp only [NT.size] at hsz
   have hdk:=deepT_le k
   refine zz ?_
   refine zL1 rfl (cell_at hN.c6 (by omega)) ?_
   refine zCr rfl (ih hK (by omega) (by omega)) fun u3 hC3=> ?_
   refine zAd rfl rfl ?_
   refine z_max ((max m (1+deepT k):Nat):Int) (want_L rfl) (by decide) rfl rfl (by split<;>omega) ?_
   refine zz ?_
   refine zk_loopW (i+1,max m (1+deepT k)) ⟨by omega,by show max m (1+deepT k)≤_;omega,?_,hC.no hC3⟩ (by show t.len - (i+1)<t.len - i;omega) ⟨rfl,rfl,get_int rfl (by simp),trivial⟩
   dsimp only
   rw [t.drop_succ i x k r e1,←hd]
   simp only [deepT];omega
  ·obtain rfl:i=t.len:=by omega
   rw [t.drop_len] at hd
   simp only [deepT,Nat.max_zero] at hd
   subst hd
   refine zz ?_
   exact zk_ret1 (.inr rfl) rfl rfl ⟨rfl,hC⟩
theorem len0 {k:NT} (h:k.len=0):k= .nil:=by cases k with|nil=>rfl|cons=>simp [NT.len] at h
def FewT:NT→Prop
 | .nil=>True
 | .cons x k r=>x.attrs.length≤10000000∧FewT k∧FewT r
theorem FewT.drop: ∀(t:NT) (i:Nat) (x:Hd) (k r:NT),FewT t→t.dropN i= .cons x k r→x.attrs.length≤10000000∧FewT k∧FewT r
 | .nil,0,x,k,r,_,h=>by cases h
 | .cons _ _ _,0,x,k,r,hf,h=>by cases h;exact hf
 | .nil,i+1,x,k,r,_,h=>by cases h
 | .cons _ _ q,i+1,x,k,r,hf,h=>FewT.drop q i x k r hf.2.2 h
theorem eq_attr {w:World} {a b c d:ByteArray} (k:Nat):(Op.equalIn (k+5) 45 (.agg #[.string a,.string b]) (.agg #[.string c,.string d])).run Tryz.prog w= .ok (decide (a=c) && (decide (b=d) && true)) w:=by
 refine eq_struct Tryz.underlying45 (by kernel_rfl) ?_
 refine eqF_cons (by rfl) (part1 rfl) (part1 rfl) eq_str ?_
 exact eqF_cons (by rfl) (part1 rfl) (part1 rfl) eq_str eqF_nil
theorem take_getD {α:Type} (d:α) {l:List α} {k:Nat} (h:k<l.length):l.take (k+1)=l.take k++ [l.getD k d]:=by
 rw [List.take_succ_eq_append_getElem h,List.getD_eq_getElem?_getD,List.getElem?_eq_getElem h];rfl
theorem Hd.ext' {a b:Hd} (h1:a.kind=b.kind) (h2:a.space=b.space) (h3:a.name=b.name) (h4:a.attrs=b.attrs) (h5:a.text=b.text) (h6:a.fr=b.fr):a=b:=by
 cases a;cases b;simp_all
theorem no_ {p:Prop} (h: ¬p):((false:Bool)=true↔p):=iff_of_false Bool.false_ne_true h
theorem drop_iff {t1 t2 k k' r r':NT} {i:Nat} {x y:Hd} (hd:t1.dropN i=t2.dropN i↔t1=t2) (e1:t1.dropN i= .cons x k r) (e2:t2.dropN i= .cons y k' r') (hx:x=y) (hk:k=k'):t1.dropN (i+1)=t2.dropN (i+1)↔t1=t2:=by
 rw [t1.drop_succ i _ _ _ e1,t2.drop_succ i _ _ _ e2,←hd,e1,e2,hx,hk]
 simp
end Go.Proofs.YtbcmiijollpgeaaGreat.D
namespace Go.Z
open Go
section
variable {P : Program} {n : Nat} {e : Env} {w : World} {Q : Exit → Act → World → Prop} {ops : Array Oper} {rest : List Oper}
variable {d : Tmp} {ty : TypeId} {pos : String} {aft : Array Edge} {g : Option (Nat × Bool)}
end
end Go.Z
namespace Go.Proofs.YtbcmiijollpgeaaGreat.D
open Go Go.Z Go.Proofs
def NewS (B:Nat) (v:Value):Prop:= ∀k,v.ownBlock=some k→B≤k
section
variable {w w' : World} {S : Nat → Prop}
end
end Go.Proofs.YtbcmiijollpgeaaGreat.D
