import Derived.Test.YtbcmiijollpgeaaGreatWH
set_option maxHeartbeats 32000000
set_option maxRecDepth 100000
set_option linter.unusedVariables false
set_option linter.unusedSimpArgs false
namespace Go.Proofs.YtbcmiijollpgeaaGreat.V
open Go Go.Z Go.Proofs
open T (big AT)
def EachT:AT→Prop
 | .nil=>True
 | .cons x k r=>(if x.name= [] then x.text≠ []∧0∉x.text else T.kidsA x.name k∧EachT k)∧EachT r
theorem okT_at: ∀(t:AT) (i:Nat) (x:T.Hd) (k r:AT),t.okT→t.dropN i= .cons x k r→T.HdT x∧k.okT
 | .nil,0,x,k,r,h,he=>by cases he
 | .nil,i+1,x,k,r,h,he=>by cases he
 | .cons _ _ _,0,x,k,r,h,he=>by cases he;exact ⟨h.1,h.2.1⟩
 | .cons _ _ q,i+1,x,k,r,h,he=>okT_at q i x k r h.2.2 he
theorem valT_len: ∀v∈T.lValT,v.length≤28:=by decide+kernel
theorem each_calls: ∀(n:Nat) {w:World} {v:Value} (t:AT),t.size=n→n≤big→t.wt≤big→t.okT→T.TreeAt false w v t→Calls Tryz.prog 35 [v].toArray w fun e w'=>(∃q:Bool,e= .returned (.bool q)∧(q=true→EachT t))∧Chg w w' No:=by
 have hbig:big=1000000000000:=rfl
 intro n
 induction n using Nat.strongRecOn with
 |_ n ih=>
 intro w v t hs hn hwt hok h
 obtain ⟨A,c,rfl,hc⟩:=h.form
 have hls:=t.len_size
 refine zCz 62 Tryz.func35 ?_
 refine zy ?_
 refine zc_loopW (ι:=Nat) (fun i u=> [(0,.slice A t.len c),(3,.int .i64 (i:Nat))]) (fun i u=>i≤t.len∧(EachT (t.dropN i)→EachT t)∧Chg w u No) (fun i u=>t.len - i) 0 ⟨Nat.zero_le _,fun h=>by rw [show t.dropN 0=t by cases t<;>rfl] at h;exact h,Chg.refl _ _⟩ ⟨rfl,rfl,trivial⟩ ?_
 rintro i u ⟨hi,hE,hC⟩
 have hfalse: ∃q:Bool,Ending.returned (.bool false)= .returned (.bool q)∧(q=true→EachT t):=⟨false,rfl,fun h=>by cases h⟩
 by_cases hlt:i<t.len
 rotate_left
 ·obtain rfl:i=t.len:=by omega
  rw [t.drop_len] at hE
  refine zy ?_
  exact zk_ret1 (.inr rfl) rfl rfl ⟨⟨true,rfl,fun _=>hE trivial⟩,hC⟩
 obtain ⟨b',o,c',x,k,r,A',F,K,e1,hv,hN,hA,hF,hK⟩:=(h.no hC).at_ i hlt
 cases hv
 obtain ⟨hxT,hkT⟩:=okT_at t i x k r hok e1
 obtain ⟨hwx,hwk⟩:=J.wt_at e1
 have hnext:(if x.name= [] then x.text≠ []∧0∉x.text else T.kidsA x.name k∧EachT k)→EachT (t.dropN (i+1))→EachT t:=fun h1 h2=>by
  rw [t.drop_succ i x k r e1] at h2
  exact hE (e1▸⟨h1,h2⟩)
 have hsz:=t.drop_size i
 rw [e1] at hsz
 simp only [AT.size] at hsz
 obtain ⟨nm,la,tx⟩:=x
 dsimp only at hA hxT hN hwx hnext
 have hla:la.length≤4:=hxT.1.2.1
 have hlv: ∀a∈la,a.2.length≤28:=fun a ha=>valT_len _ (hxT.1.2.2 a ha).2
 have htx:tx.length≤20:=hxT.2
 obtain ⟨A2,c2,rfl,_⟩:=hA.form
 obtain ⟨A3,m3,c3,rfl⟩:=hF
 obtain ⟨A4,c4,rfl,_⟩:=hK.form
 have hlk:=k.len_size
 refine zy ?_
 refine z_loadA (by rfl) (want_L rfl) (by decide) rfl (hN.agg (by omega)) ?_
 refine zAl (fun u1 b1 hN1=> ?_)
 have hb1:Blk u1 b1 43 [.string ⟨#[]⟩,T.nS,.string ⟨#[]⟩,T.nS,T.nS]:=hN1.blk
 refine z_store (want_L rfl) rfl rfl rfl (by assumption) (by first|exact Nat.le_refl _|simp [Value.cells]) (by simp [Value.cells,Value.oneCell']) (fun u2 hU2=> ?_)
 have hb2:Blk u2 b1 43 [.string (bs nm),.slice A2 la.length c2,.string (bs tx),.slice A3 m3 c3,.slice A4 k.len c4]:=hU2.blk
 have hX2:Chg u u2 No:=hN1.chg.upd hU2 (hN1.ge (Chg.refl _ No))
 have hC2:Chg w u2 No:=hC.no hX2
 have hK2:=hK.no hX2
 have hA2:=hA.no hX2
 have hF2:T.isSl (.slice A3 m3 c3):=⟨_,_,_,rfl⟩
 by_cases hnm:nm= []
 ·by_cases ht0:tx= []
  ·refine zy ?_
   exact zk_ret1 (.inr rfl) rfl rfl ⟨hfalse,hC2⟩
  refine zy ?_
  refine zCl rfl (wholeV_calls tx (by omega)) ?_
  rintro _ u3 ⟨⟨q,rfl,hq⟩,hu3⟩
  obtain rfl:=hu3.symm
  refine ⟨_,rfl,?_⟩
  cases q
  ·refine zy ?_
   exact zk_ret1 (.inr rfl) rfl rfl ⟨hfalse,hC2⟩
  by_cases hz:0<la.length+k.len
  ·refine zy ?_
   exact zk_ret1 (.inr rfl) rfl rfl ⟨hfalse,hC2⟩
  refine zy ?_
  exact zk_loopW (i+1) ⟨by omega,hnext (by rw [if_pos hnm];exact ⟨ht0,hq rfl⟩),hC2⟩ (by omega) ⟨rfl,get_int rfl (by omega),trivial⟩
 ·by_cases ht0:tx= []
  rotate_left
  ·refine zy ?_
   exact zk_ret1 (.inr rfl) rfl rfl ⟨hfalse,hC2⟩
  by_cases hm:0<m3
  ·refine zy ?_
   exact zk_ret1 (.inr rfl) rfl rfl ⟨hfalse,hC2⟩
  refine zy ?_
  refine zCl rfl (attrs17_calls hA2 hla hlv hF2 hK2 (by omega)) ?_
  rintro _ u3 ⟨⟨q,rfl⟩,hC3⟩
  refine ⟨_,rfl,?_⟩
  have hb3:=hb2.no hC3
  have hK3:=hK2.no hC3
  cases q
  ·refine zy ?_
   exact zk_ret1 (.inr rfl) rfl rfl ⟨hfalse,hC2.no hC3⟩
  refine zy ?_
  refine zCl rfl (kids_calls ⟨_,_,_,rfl⟩ hF2 hK3 (by omega)) ?_
  rintro _ u4 ⟨⟨q,rfl,hq4⟩,hC4⟩
  refine ⟨_,rfl,?_⟩
  have hb4:=hb3.no hC4
  have hK4:=hK3.no hC4
  cases q
  ·refine zy ?_
   exact zk_ret1 (.inr rfl) rfl rfl ⟨hfalse,(hC2.no hC3).no hC4⟩
  refine zy ?_
  refine zCl rfl (ih k.size (by omega) k rfl (by omega) (by omega) hkT hK4) ?_
  rintro _ u5 ⟨⟨q,rfl,hq5⟩,hC5⟩
  refine ⟨_,rfl,?_⟩
  cases q
  ·refine zy ?_
   exact zk_ret1 (.inr rfl) rfl rfl ⟨hfalse,((hC2.no hC3).no hC4).no hC5⟩
  refine zy ?_
  exact zk_loopW (i+1) ⟨by omega,hnext (by rw [if_neg hnm];exact ⟨hq4 rfl,hq5 rfl⟩),((hC2.no hC3).no hC4).no hC5⟩ (by omega) ⟨rfl,get_int rfl (by omega),trivial⟩
open T (big AT)
theorem right_calls {w:World} {v:Value} (t:AT) (hs:t.size≤big) (hwt:t.wt≤big) (hok:t.okT) (h:T.TreeAt false w v t):Calls Tryz.prog 14 [v].toArray w fun e w'=>(∃q:Bool,e= .returned (.bool q)∧(q=true→T.ofA T.tBlk t∧EachT t))∧Chg w w' No:=by
 have hbig:big=1000000000000:=rfl
 obtain ⟨A,c,rfl,hc⟩:=h.form
 have hfalse: ∃q:Bool,Ending.returned (.bool false)= .returned (.bool q)∧(q=true→T.ofA T.tBlk t∧EachT t):=⟨false,rfl,fun h=>by cases h⟩
 refine zCz 14 Tryz.func14 ?_
 refine zz ?_
 refine zCl rfl (J.of_calls t _ (by decide) h (by omega)) ?_
 rintro _ w1 ⟨⟨q,rfl,hq⟩,hC1⟩
 refine ⟨_,rfl,?_⟩
 have hwd:T.wordsN [] [98,108,111,99,107,113,117,111,116,101,32,104,50,32,104,51,32,104,52,32,104,53,32,104,54,32,104,114,32,111,108,32,112,32,112,114,101,32,116,97,98,108,101,32,117,108]=T.tBlk:=by decide+kernel
 cases q
 ·refine zz ?_
  exact zk_ret1 (.inr rfl) rfl rfl ⟨hfalse,hC1⟩
 refine zP rfl (zP rfl ?_)
 refine zCl rfl (J.deep_calls t.size t (Nat.le_refl _) (by omega) (h.no hC1)) ?_
 rintro _ w2 ⟨⟨d,rfl,hd⟩,hC2⟩
 refine ⟨_,rfl,?_⟩
 by_cases h40:d≤40
 rotate_left
 ·refine zz ?_
  exact zk_ret1 (.inr rfl) rfl rfl ⟨hfalse,hC1.no hC2⟩
 refine zz ?_
 refine zCl rfl (each_calls t.size t rfl (by omega) hwt hok ((h.no hC1).no hC2)) ?_
 rintro _ w3 ⟨⟨q,rfl,hE⟩,hC3⟩
 refine ⟨_,rfl,?_⟩
 refine zz ?_
 exact zk_ret1 (.inr rfl) rfl rfl ⟨⟨_,rfl,fun hh=>⟨hwd▸hq.1 rfl,hE hh⟩⟩,(hC1.no hC2).no hC3⟩
theorem AtOk_T {l:List T.At} (h:T.AtsT l):T.AtOk l:=by
 refine ⟨fun a ha=> ?_,h.1,by have:=h.2.1;omega⟩
 obtain ⟨g1,g2⟩:=h.2.2 a ha
 have k1: ∀k∈T.lKeyT,k≠ []∧ ∀c∈k,T.lowC c:=by decide+kernel
 have k2: ∀v∈T.lValT,0∉v∧v.length≤1000:=by decide+kernel
 obtain ⟨e1,e2⟩:=k1 _ g1
 obtain ⟨e3,e4⟩:=k2 _ g2
 exact ⟨e1,e2,e3,by omega⟩
theorem SA_T: ∀a:AT,a.okT→EachT a→D.SA a
 | .nil,_,_=>trivial
 | .cons x k r,⟨h1,h2,h3⟩,⟨s1,s2⟩=>by
  refine ⟨?_,SA_T r h3 s2⟩
  by_cases hx:x.name= []
  ·rw [if_pos hx] at s1 ⊢
   exact ⟨s1.1,s1.2,by have:=h1.2;omega⟩
  ·rw [if_neg hx] at s1 ⊢
   exact ⟨AtOk_T h1.1,s1.1,SA_T k h2 s1.2⟩
end Go.Proofs.YtbcmiijollpgeaaGreat.V
namespace Go.Proofs.YtbcmiijollpgeaaGreat.D
open Go Go.Z Go.Proofs
theorem few_bare: ∀a:T.AT,SA a→FewT (bareN a)
 | .nil,_=>trivial
 | .cons x k r,⟨h1,h2⟩=>by
  have ih:=few_bare r h2
  by_cases hx:x.name= []
  ·rw [bare_text hx]
   exact ⟨Nat.zero_le _,trivial,ih⟩
  ·rw [bare_elem hx]
   rw [if_neg hx] at h1
   refine ⟨?_,few_bare k h1.2.2,ih⟩
   show (encT x.attrs).length≤_
   rw [encT_len]
   have:=h1.1.ln
   omega
theorem bare_size: ∀a:T.AT,(bareN a).size≤a.size
 | .nil=>Nat.le_refl _
 | .cons x k r=>by
  have ih:=bare_size r
  by_cases hx:x.name= []
  ·rw [bare_text hx]
   simp only [NT.size,T.AT.size];omega
  ·have:=bare_size k
   rw [bare_elem hx]
   simp only [NT.size,T.AT.size];omega
theorem size_wt: ∀a:T.AT,10*a.size≤a.wt
 | .nil=>Nat.le_refl _
 | .cons x k r=>by
  have h1:=size_wt k
  have h2:=size_wt r
  simp only [T.AT.size,T.AT.wt];omega
end Go.Proofs.YtbcmiijollpgeaaGreat.D
namespace Go.Proofs.YtbcmiijollpgeaaGreat.V
open Go Go.Z Go.Proofs
open T (big AT)
theorem PrintTurned_walk (a1:Option Addr) (l1 c1:Nat) (z1:List Int) (a2:Option Addr) (l2 c2:Nat) (z2:List Int) (w:World) (h1:T.IsRow .i64 w a1 l1 c1 z1) (h2:T.IsRow .i64 w a2 l2 c2 z2):
  Calls Tryz.prog 4 #[.slice a1 l1 c1,.slice a2 l2 c2] w fun e w'=>e= .returned (.bool true)∧RowKit.Below w.heap.size w w':=by
 show Calls Tryz.prog 4 [Value.slice a1 l1 c1,.slice a2 l2 c2].toArray w _
 have hbig:T.big=1000000000000:=rfl
 refine zCz 40 Tryz.func4 ?_
 refine zz ?_
 refine zCr rfl T.known_calls fun w1 hC1=> ?_
 have h1':=T.IsRow.no h1 hC1
 refine zz ?_
 refine zCl rfl (T.made_calls h1') ?_
 rintro _ w2 ⟨va,ta,rfl,hta,hoka,hwa,_,hC2⟩
 refine ⟨_,rfl,?_⟩
 have hX2:=hC1.no hC2
 obtain ⟨Aa,ca,rfl,_⟩:=hta.form
 refine zP rfl ?_
 refine z_buildE #[.slice a2 l2 c2,.int .i64 0] (want_L rfl) (by decide) rfl (by kernel_rfl) ?_
 refine zBx rfl (fun w3 b3 hN3=> ?_)
 have hb3:Blk w3 b3 36 [.slice a2 l2 c2,.int .i64 ((0:Nat):Int)]:=hN3.blk
 have hT3:T.Tp w3 w2.heap.size b3:=⟨⟨w2,a2,l2,c2,z2,0,Nat.le_refl _,hb3,T.IsRow.no h2 hX2,hN3.chg.mono (fun _ _ h=>h.elim),Nat.zero_le _⟩,Nat.le_of_eq hN3.at_.symm⟩
 refine zCl rfl (T.turn_calls ta hT3 (hta.no hN3.chg) hoka.1 (by omega)) ?_
 rintro _ w4 ⟨vt,t,rfl,ht,hwt,hokT,hdp,hT4,hC4⟩
 refine ⟨_,rfl,?_⟩
 have hX4:Chg w w4 No:=(hX2.no hN3.chg).trans hC4 (fun k hk he=>by have:=hN3.at_;have:=hX2.size;omega)
 obtain ⟨At,ct,rfl,_⟩:=ht.form
 refine zz ?_
 refine zCr rfl (T.text_calls ht.weak (by omega)) fun w5 hC5=> ?_
 have hsw:=D.size_wt t
 have hD:=hoka.2.2.2
 refine zz ?_
 refine zCl rfl (right_calls t (by omega) (by omega) hokT (ht.no hC5).weak) ?_
 rintro _ w6 ⟨⟨q,rfl,hq⟩,hC6⟩
 refine ⟨_,rfl,?_⟩
 have hX6:=(hX4.no hC5).no hC6
 cases q
 ·refine zz ?_
  exact zk_ret1 (.inr rfl) rfl rfl ⟨rfl,hX6.below⟩
 obtain ⟨hO,hE⟩:=hq rfl
 have hSA:=SA_T t hokT hE
 by_cases hl:t.text.length≤1048576
 rotate_left
 ·refine zz ?_
  exact zk_ret1 (.inr rfl) rfl rfl ⟨rfl,hX6.below⟩
 refine zz ?_
 refine zCl rfl (D.parseA_calls t hO hSA (by omega) hl) ?_
 rintro _ w7 ⟨vl,rfl,hT1,hz1,hC7⟩
 refine ⟨_,rfl,?_⟩
 obtain ⟨Al,cl,rfl,_⟩:=hT1.form
 have hF:=D.few_bare t hSA
 refine zz ?_
 refine zCl rfl (D.bareC_calls t.size (((ht.no hC5).no hC6).no hC7) (Nat.le_refl _) (by omega)) ?_
 rintro _ w8 ⟨vb,rfl,hB,hC8⟩
 refine ⟨_,rfl,?_⟩
 obtain ⟨Ab,cb,rfl,_⟩:=hB.at'.form
 refine zCl rfl (D.sameR_calls (D.bareN t).size (hT1.no hC8) hB.at' hF hF (Nat.le_refl _) hz1) ?_
 rintro _ w9 ⟨q,rfl,hq9,hC9⟩
 refine ⟨_,rfl,?_⟩
 obtain rfl:q=true:=hq9.2 rfl
 refine zz ?_
 exact zk_ret1 (.inr rfl) rfl rfl ⟨rfl,(((hX6.no hC7).no hC8).no hC9).below⟩
end Go.Proofs.YtbcmiijollpgeaaGreat.V
