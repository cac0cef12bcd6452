import Derived.Test.YtbcmiijollpgeaaGreatWO
set_option maxHeartbeats 32000000
set_option maxRecDepth 100000
set_option linter.unusedVariables false
set_option linter.unusedSimpArgs false
namespace Go.Proofs.YtbcmiijollpgeaaGreat.V
open Go Go.Z Go.Proofs T
theorem utext_calls {w:World} {v:Value} {m:Nat} (h:UrlV v m) (hm:m≤100000000):Calls Tryz.prog 135 [v].toArray w fun e w'=>(∃s:List UInt8,e= .returned (.string (bs s))∧s.length≤5*m+1048600)∧Chg w w' No:=by
 have h0:=h
 obtain ⟨a,b,p,c,d,f,rfl,h1,h2,h3,h4,h5,h6⟩:=h
 refine zCz 14 Tryz.func135 ?_
 refine zS (zR ?_)
 refine zBx rfl (fun w1 b1 hN1=> ?_)
 have hb1:Blk w1 b1 153 [.string (bs a),.string (bs b),.int .i64 p,.string (bs c),.string (bs d),.string (bs f)]:=hN1.blk
 refine zz ?_
 refine zc_draw [] (fun w'=>Chg w1 w' No∧Blk w' b1 153 [.string (bs a),.string (bs b),.int .i64 p,.string (bs c),.string (bs d),.string (bs f)]) (.take 0 (.take 2 (.take 3 (.take 5 (.take 6 (.take 8 (.take 9 (.all1 1 (.take 4 (.take 7 (.take 10 (.take 11 (.fin))))))))))))) (by rfl) (by kernel_rfl) (by kernel_rfl) (fun w2 hD _=>⟨?_,?_⟩)
 ·exact ⟨hD,hb1.no hD⟩
 refine zz ?_
 refine zs_call rfl (want_L rfl) rfl (by decide) rfl (head_calls h0 hm) ?_
 rintro _ w3 ⟨⟨s,rfl,hs⟩,hC⟩
 have hD2:=hD.no hC
 refine ⟨_,rfl,⟨hD2,hb1.no hD2⟩,?_⟩
 refine zz ?_
 exact zk_ret1 (.inr rfl) rfl rfl ⟨⟨_,rfl,by simp only [List.length_append];omega⟩,hN1.chg.no hD2⟩
abbrev UB (w:World) (b:Nat) (A H:List UInt8) (p:Nat) (c d F:List UInt8):Prop:=Blk w b 153 [.string (bs A),.string (bs H),.int .i64 p,.string (bs c),.string (bs d),.string (bs F)]
theorem UB.chg {w w':World} {b p:Nat} {A H c d F:List UInt8} {S:Nat→Prop} (h:UB w b A H p c d F) (hc:Chg w w' S) (hn: ¬S b):UB w' b A H p c d F:=Blk.chg h hc hn
theorem UB.no {w w':World} {b p:Nat} {A H c d F:List UInt8} (h:UB w b A H p c d F) (hc:Chg w w' No):UB w' b A H p c d F:=Blk.no h hc
def G23' (b6:Nat) (r:List UInt8) (k:Nat):Nat→Value→Prop
 |0,v|3,v=>v= .string (bs r)
 |1,v|4,v=>v= .int .i64 k
 |2,v|5,v=> ∃s:List UInt8,v= .string (bs s)∧s.length≤300
 |6,v=>v= .pointer (some ⟨b6,4,none⟩)
 |8,v=>v= .pointer (some ⟨b6,3,none⟩)
 |_,_=>True
def G23 (b6:Nat) (r:List UInt8) (k:Nat) (j:Nat) (v:Value) (_:World):Prop:=G23' b6 r k j v
def T23 (w0:World) (b6:Nat) (A H:List UInt8) (p:Nat) (F:List UInt8) (w:World):Prop:= ∃c d,UB w b6 A H p c d F∧c.length≤300∧d.length≤300∧Chg w0 w (· =b6)
def G25' (b6:Nat):Nat→Value→Prop
 |0,v|7,v=>v= .pointer (some ⟨b6,4,none⟩)
 |3,v|9,v=>v= .pointer (some ⟨b6,3,none⟩)
 |1,v|4,v=> ∃s:List UInt8,v= .string (bs s)∧s.length≤300
 |2,v|6,v=> ∃s:List UInt8,v= .string (bs s)∧s.length≤4000000
 |5,v=> ∃s:List UInt8,v= .string (bs s)∧s.length≤1010000
 |_,_=>True
def G25 (b6:Nat) (j:Nat) (v:Value) (_:World):Prop:=G25' b6 j v
def T25 (w0:World) (b6:Nat) (A H:List UInt8) (p:Nat) (F:List UInt8) (i j:Nat) (b:Array Bool) (w:World):Prop:= ∃c d,UB w b6 A H p c d F∧c.length≤4000000∧d.length≤4000000∧(b.getD i false=false→c.length≤300)∧(b.getD j false=false→d.length≤300)∧Chg w0 w (· =b6)
theorem T25.no {w0 w w':World} {b6 p i j k:Nat} {A H F:List UInt8} {b:Array Bool} (h:T25 w0 b6 A H p F i j b w) (hi:k≠i) (hj:k≠j) (hc:Chg w w' No):T25 w0 b6 A H p F i j (b.setIfInBounds k true) w':=by
 obtain ⟨c,d,h1,h2,h3,h4,h5,h6⟩:=h
 exact ⟨c,d,h1.no hc,h2,h3,(fun h=>h4 (by rwa [gd_ne hi] at h)),(fun h=>h5 (by rwa [gd_ne hj] at h)),h6.no hc⟩
def G26' (b6:Nat):Nat→Value→Prop
 |0,v|6,v=>v= .pointer (some ⟨b6,4,none⟩)
 |3,v|8,v=>v= .pointer (some ⟨b6,3,none⟩)
 |1,v|4,v=> ∃s:List UInt8,v= .string (bs s)∧s.length≤300
 |2,v|5,v=> ∃s:List UInt8,v= .string (bs s)∧s.length≤4000000
 |_,_=>True
def G26 (b6:Nat) (j:Nat) (v:Value) (_:World):Prop:=G26' b6 j v
theorem parse_calls {w:World} (l:List UInt8) (hl:l.length≤300):Calls Tryz.prog 134 [.string (bs l)].toArray w fun e w'=>(∃v k,e= .returned (.tuple #[v,.int .i64 k])∧UrlV v 4000000)∧Chg w w' No:=by
 have hbig:big=1000000000000:=rfl
 have hbad: ∀k:Int,∃v k',Ending.returned (.tuple #[.agg #[.string (bs []),.string (bs []),.int .i64 ((0:Nat):Int),.string (bs []),.string (bs []),.string (bs [])],.int .i64 k])= .returned (.tuple #[v,.int .i64 k'])∧UrlV v 4000000:=fun k=>⟨_,_,rfl,UrlV.mk' (by simp) (by simp) (by simp) (by simp) (by simp) (by omega)⟩
 refine zCz 122 Tryz.func134 ?_
 refine zS (zR ?_)
 refine zAl (fun w1 b2 hN1=> ?_)
 have hb2:UB w1 b2 [] [] 0 [] [] []:=hN1.blk
 refine zz ?_
 refine zCl rfl (trimU_calls l (by omega)) ?_
 rintro _ v ⟨⟨s,rfl,hs⟩,hv⟩
 obtain rfl:=hv.symm
 refine ⟨_,rfl,?_⟩
 refine zCl rfl (scheme_calls s (by omega)) ?_
 rintro _ w2 ⟨⟨A,r,rfl,hA,hr⟩,hC2⟩
 refine ⟨_,rfl,?_⟩
 have hb2:=hb2.no hC2
 refine zz ?_
 refine z_buildE #[.string (bs A),.string (bs []),.int .i64 ((0:Nat):Int),.string (bs []),.string (bs []),.string (bs [])] (want_L rfl) (by decide) rfl (by kernel_rfl) ?_
 refine zAl (fun w3 b6 hN3=> ?_)
 have hb6:Blk w3 b6 153 [.string ⟨#[]⟩,.string ⟨#[]⟩,.int .i64 0,.string ⟨#[]⟩,.string ⟨#[]⟩,.string ⟨#[]⟩]:=hN3.blk
 refine z_store (want_L rfl) rfl rfl rfl (by assumption) (by first|exact Nat.le_refl _|simp [Value.cells]) (by simp [Value.cells,Value.oneCell']) (fun w4 hU4=> ?_)
 have hb6:UB w4 b6 A [] 0 [] [] []:=hU4.blk
 have hne:b2≠b6:=by have:=hb2.lt;have:=hN3.at_;omega
 have hb2:UB w4 b2 [] [] 0 [] [] []:=(hb2.no hN3.chg).chg hU4.chg (fun h=>hne h)
 have hC14:Chg w w4 No:=((hN1.chg.no hC2).no hN3.chg).upd hU4 (by have:=hN3.at_;have:=hC2.size;have:=hN1.size;omega)
 have h2ge:w.heap.size≤b2:=Nat.le_of_eq hN1.at_.symm
 have h6ge:w.heap.size≤b6:=by have:=hN3.at_;have:=hC2.size;have:=hN1.size;omega
 refine zz ?_
 refine zEq rfl rfl (fun hc=> ?_) (fun hc=> ?_)
 ·refine zz ?_
  refine z_buildE #[.string (bs []),.string (bs []),.int .i64 ((0:Nat):Int),.string (bs []),.string (bs []),.string (bs [])] (want_L rfl) (by decide) rfl (by kernel_rfl) ?_
  refine z_store (want_L rfl) rfl rfl rfl (by assumption) (by first|exact Nat.le_refl _|simp [Value.cells]) (by simp [Value.cells,Value.oneCell']) (fun w5 hU5=> ?_)
  have hb5:UB w5 b2 [] [] 0 [] [] []:=hU5.blk
  refine zz ?_
  exact zk_retCT (.inr rfl) rfl rfl rfl hb5 rfl ⟨hbad 5,hC14.upd hU5 h2ge⟩
 refine zN (zK (zF rfl (zA (zK ?_))))
 refine zc_midX (ι:=List UInt8×List UInt8×Nat) (fun q u=>UB u b6 A q.2.1 q.2.2 [] [] []∧UB u b2 [] [] 0 [] [] []∧q.1.length≤300∧q.2.1.length≤300∧q.2.2≤65535∧Chg w u No) (fun q=> [(0,.string (bs l)),(2,.pointer (some ⟨b2,0,none⟩)),(4,.string (bs A)),(5,.string (bs q.1)),(6,.pointer (some ⟨b6,0,none⟩))]) ?_ ?_
 have hp4:([47,92,63,35]:List UInt8).length≤big:=by rw [hbig];decide
 have hp1: ∀c:UInt8,[c].length≤big:=fun c=>by rw [hbig];simp
 ·refine zS (zR (zP rfl ?_))
  refine zCl rfl (web_calls A) ?_
  rintro _ v ⟨⟨q,rfl⟩,hv⟩
  obtain rfl:=hv.symm
  refine ⟨_,rfl,?_⟩
  cases q
  ·refine zz ?_
   exact zk_midX (r,[],0) ⟨hb6,hb2,by dsimp only;omega,by simp,by simp,hC14⟩ ⟨rfl,rfl,rfl,rfl,rfl,trivial⟩
  refine zz ?_
  refine zc_midBX (ι:=List UInt8) (fun q u=>q.length≤300∧u=w4) (fun q=> [(0,.string (bs l)),(2,.pointer (some ⟨b2,0,none⟩)),(4,.string (bs A)),(5,.string (bs q)),(6,.pointer (some ⟨b6,0,none⟩))]) ?_ ?_
  ·refine zc_loopW (ι:=List UInt8) (fun q u=> [(0,.string (bs l)),(2,.pointer (some ⟨b2,0,none⟩)),(4,.string (bs A)),(5,.string (bs q)),(6,.pointer (some ⟨b6,0,none⟩))]) (fun q u=>q.length≤300∧u=w4) (fun q u=>q.length) r ⟨by omega,rfl⟩ ⟨rfl,rfl,rfl,rfl,rfl,trivial⟩ ?_
   rintro q u ⟨hq,hu⟩
   obtain rfl:=hu.symm
   refine zz ?_
   refine z_neL (want_L rfl) (by decide) rfl rfl (fun hc=> ?_) (fun hc=> ?_)
   ·have hq0:0<q.length:=List.length_pos_iff.2 hc
    repeat' (first|refine za ?_|refine a_cutW rfl rfl rfl fun _ _=> ?_|refine a_catW rfl rfl fun _ _=> ?_|refine a_idxW rfl rfl fun _ _=> ?_|refine a_addW rfl rfl fun _ _=> ?_|refine a_subW rfl rfl fun _ _=> ?_|refine a_min rfl rfl fun _ _ _ _=> ?_|refine a_max rfl rfl fun _ _ _ _=> ?_|refine a_shr rfl rfl fun _ _=> ?_|refine a_and rfl rfl fun _ _=> ?_|refine a_cmp rfl rfl rfl (fun _=> ?_) fun _=> ?_|refine a_eq rfl rfl (fun _=> ?_) fun _=> ?_|refine a_ne rfl rfl (fun _=> ?_) fun _=> ?_)
    all_goals first|exact zk_midX q ⟨hq,rfl⟩ ⟨rfl,rfl,rfl,rfl,rfl,trivial⟩|(rename_i s hs;exact zk_loopW s ⟨by omega,rfl⟩ (by omega) ⟨rfl,rfl,rfl,rfl,rfl,trivial⟩)
   ·repeat' (first|refine za ?_|refine a_cutW rfl rfl rfl fun _ _=> ?_|refine a_catW rfl rfl fun _ _=> ?_|refine a_idxW rfl rfl fun _ _=> ?_|refine a_addW rfl rfl fun _ _=> ?_|refine a_subW rfl rfl fun _ _=> ?_|refine a_min rfl rfl fun _ _ _ _=> ?_|refine a_max rfl rfl fun _ _ _ _=> ?_|refine a_shr rfl rfl fun _ _=> ?_|refine a_and rfl rfl fun _ _=> ?_|refine a_cmp rfl rfl rfl (fun _=> ?_) fun _=> ?_|refine a_eq rfl rfl (fun _=> ?_) fun _=> ?_|refine a_ne rfl rfl (fun _=> ?_) fun _=> ?_)
    exact zk_midX q ⟨hq,rfl⟩ ⟨rfl,rfl,rfl,rfl,rfl,trivial⟩
  rintro r1 u ⟨hr1,hu⟩
  obtain rfl:=hu.symm
  repeat' (first|refine za ?_|refine a_cutW rfl rfl rfl fun _ _=> ?_|refine a_catW rfl rfl fun _ _=> ?_|refine a_idxW rfl rfl fun _ _=> ?_|refine a_addW rfl rfl fun _ _=> ?_|refine a_subW rfl rfl fun _ _=> ?_|refine a_min rfl rfl fun _ _ _ _=> ?_|refine a_max rfl rfl fun _ _ _ _=> ?_|refine a_shr rfl rfl fun _ _=> ?_|refine a_and rfl rfl fun _ _=> ?_|refine a_cmp rfl rfl rfl (fun _=> ?_) fun _=> ?_|refine a_eq rfl rfl (fun _=> ?_) fun _=> ?_|refine a_ne rfl rfl (fun _=> ?_) fun _=> ?_)
  refine zCl rfl (upTo_calls r1 [47,92,63,35] (by omega) hp4) ?_
  rintro _ v ⟨⟨k,rfl,hk⟩,hv⟩
  obtain rfl:=hv.symm
  refine ⟨_,rfl,?_⟩
  repeat' (first|refine za ?_|refine a_cutW rfl rfl rfl fun _ _=> ?_|refine a_catW rfl rfl fun _ _=> ?_|refine a_idxW rfl rfl fun _ _=> ?_|refine a_addW rfl rfl fun _ _=> ?_|refine a_subW rfl rfl fun _ _=> ?_|refine a_min rfl rfl fun _ _ _ _=> ?_|refine a_max rfl rfl fun _ _ _ _=> ?_|refine a_shr rfl rfl fun _ _=> ?_|refine a_and rfl rfl fun _ _=> ?_|refine a_cmp rfl rfl rfl (fun _=> ?_) fun _=> ?_|refine a_eq rfl rfl (fun _=> ?_) fun _=> ?_|refine a_ne rfl rfl (fun _=> ?_) fun _=> ?_)
  rename_i who hwho r2 hr2
  refine zCl rfl (upTo_calls who [58] (by omega) (hp1 58)) ?_
  rintro _ v ⟨⟨c,rfl,hc⟩,hv⟩
  obtain rfl:=hv.symm
  refine ⟨_,rfl,?_⟩
  repeat' (first|refine za ?_|refine a_cutW rfl rfl rfl fun _ _=> ?_|refine a_catW rfl rfl fun _ _=> ?_|refine a_idxW rfl rfl fun _ _=> ?_|refine a_addW rfl rfl fun _ _=> ?_|refine a_subW rfl rfl fun _ _=> ?_|refine a_min rfl rfl fun _ _ _ _=> ?_|refine a_max rfl rfl fun _ _ _ _=> ?_|refine a_shr rfl rfl fun _ _=> ?_|refine a_and rfl rfl fun _ _=> ?_|refine a_cmp rfl rfl rfl (fun _=> ?_) fun _=> ?_|refine a_eq rfl rfl (fun _=> ?_) fun _=> ?_|refine a_ne rfl rfl (fun _=> ?_) fun _=> ?_)
  rename_i hd hhd
  refine zCl rfl (fold_calls hd (by omega)) ?_
  rintro _ w5 ⟨⟨H,rfl,hH⟩,hC5⟩
  refine ⟨_,rfl,?_⟩
  have hb6:=hb6.no hC5
  have hb2:=hb2.no hC5
  repeat' (first|refine za ?_|refine a_cutW rfl rfl rfl fun _ _=> ?_|refine a_catW rfl rfl fun _ _=> ?_|refine a_idxW rfl rfl fun _ _=> ?_|refine a_addW rfl rfl fun _ _=> ?_|refine a_subW rfl rfl fun _ _=> ?_|refine a_min rfl rfl fun _ _ _ _=> ?_|refine a_max rfl rfl fun _ _ _ _=> ?_|refine a_shr rfl rfl fun _ _=> ?_|refine a_and rfl rfl fun _ _=> ?_|refine a_cmp rfl rfl rfl (fun _=> ?_) fun _=> ?_|refine a_eq rfl rfl (fun _=> ?_) fun _=> ?_|refine a_ne rfl rfl (fun _=> ?_) fun _=> ?_)
  refine z_store (want_L rfl) rfl rfl rfl (by assumption) (by first|exact Nat.le_refl _|simp [Value.cells]) (by simp [Value.cells,Value.oneCell']) (fun w6 hU6=> ?_)
  have hb6:UB w6 b6 A H 0 [] [] []:=hU6.blk
  have hb2:UB w6 b2 [] [] 0 [] [] []:=hb2.chg hU6.chg (fun h=>hne h)
  have hC6:Chg w w6 No:=(hC14.no hC5).upd hU6 h6ge
  repeat' (first|refine za ?_|refine a_cutW rfl rfl rfl fun _ _=> ?_|refine a_catW rfl rfl fun _ _=> ?_|refine a_idxW rfl rfl fun _ _=> ?_|refine a_addW rfl rfl fun _ _=> ?_|refine a_subW rfl rfl fun _ _=> ?_|refine a_min rfl rfl fun _ _ _ _=> ?_|refine a_max rfl rfl fun _ _ _ _=> ?_|refine a_shr rfl rfl fun _ _=> ?_|refine a_and rfl rfl fun _ _=> ?_|refine a_cmp rfl rfl rfl (fun _=> ?_) fun _=> ?_|refine a_eq rfl rfl (fun _=> ?_) fun _=> ?_|refine a_ne rfl rfl (fun _=> ?_) fun _=> ?_)
  refine zCl rfl (host_calls H (by omega)) ?_
  rintro _ w7 ⟨⟨q,rfl⟩,hC7⟩
  refine ⟨_,rfl,?_⟩
  have hb6:=hb6.no hC7
  have hb2:=hb2.no hC7
  cases q
  ·refine zz ?_
   refine z_buildE #[.string (bs []),.string (bs []),.int .i64 ((0:Nat):Int),.string (bs []),.string (bs []),.string (bs [])] (want_L rfl) (by decide) rfl (by kernel_rfl) ?_
   refine z_store (want_L rfl) rfl rfl rfl (by assumption) (by first|exact Nat.le_refl _|simp [Value.cells]) (by simp [Value.cells,Value.oneCell']) (fun w8 hU8=> ?_)
   have hb8:UB w8 b2 [] [] 0 [] [] []:=hU8.blk
   refine zz ?_
   exact zk_retCT (.inr rfl) rfl rfl rfl hb8 rfl ⟨hbad 6,(hC6.no hC7).upd hU8 h2ge⟩
  repeat' (first|refine za ?_|refine a_cutW rfl rfl rfl fun _ _=> ?_|refine a_catW rfl rfl fun _ _=> ?_|refine a_idxW rfl rfl fun _ _=> ?_|refine a_addW rfl rfl fun _ _=> ?_|refine a_subW rfl rfl fun _ _=> ?_|refine a_min rfl rfl fun _ _ _ _=> ?_|refine a_max rfl rfl fun _ _ _ _=> ?_|refine a_shr rfl rfl fun _ _=> ?_|refine a_and rfl rfl fun _ _=> ?_|refine a_cmp rfl rfl rfl (fun _=> ?_) fun _=> ?_|refine a_eq rfl rfl (fun _=> ?_) fun _=> ?_|refine a_ne rfl rfl (fun _=> ?_) fun _=> ?_)
  rename_i p hp
  refine zCl rfl (port_calls A p (by omega) (by omega)) ?_
  rintro _ v ⟨⟨n,q,rfl,hn⟩,hv⟩
  obtain rfl:=hv.symm
  refine ⟨_,rfl,?_⟩
  cases q
  ·refine zz ?_
   refine z_buildE #[.string (bs []),.string (bs []),.int .i64 ((0:Nat):Int),.string (bs []),.string (bs []),.string (bs [])] (want_L rfl) (by decide) rfl (by kernel_rfl) ?_
   refine z_store (want_L rfl) rfl rfl rfl (by assumption) (by first|exact Nat.le_refl _|simp [Value.cells]) (by simp [Value.cells,Value.oneCell']) (fun w8 hU8=> ?_)
   have hb8:UB w8 b2 [] [] 0 [] [] []:=hU8.blk
   refine zz ?_
   exact zk_retCT (.inr rfl) rfl rfl rfl hb8 rfl ⟨hbad 7,(hC6.no hC7).upd hU8 h2ge⟩
  refine zz ?_
  refine z_store (want_L rfl) rfl rfl rfl (by assumption) (by first|exact Nat.le_refl _|simp [Value.cells]) (by simp [Value.cells,Value.oneCell']) (fun w8 hU8=> ?_)
  have hb6:UB w8 b6 A H n [] [] []:=hU8.blk
  have hb2:UB w8 b2 [] [] 0 [] [] []:=hb2.chg hU8.chg (fun h=>hne h)
  refine zN ?_
  exact zk_midX (r2,H,n) ⟨hb6,hb2,by dsimp only;omega,by dsimp only;omega,hn,(hC6.no hC7).upd hU8 h6ge⟩ ⟨rfl,rfl,rfl,rfl,rfl,trivial⟩
 have hp1: ∀c:UInt8,[c].length≤big:=fun c=>by rw [hbig];simp
 have hp2: ∀c d:UInt8,[c,d].length≤big:=fun c d=>by rw [hbig];simp
 clear hb6 hb2
 rintro ⟨r,H,p⟩ u ⟨hb6,hb2,hr,hH,hp,hC⟩
 dsimp only at hb6 hb2 hr hH hp ⊢
 repeat' (first|refine za ?_|refine a_cutW rfl rfl rfl fun _ _=> ?_|refine a_catW rfl rfl fun _ _=> ?_|refine a_idxW rfl rfl fun _ _=> ?_|refine a_addW rfl rfl fun _ _=> ?_|refine a_subW rfl rfl fun _ _=> ?_|refine a_min rfl rfl fun _ _ _ _=> ?_|refine a_max rfl rfl fun _ _ _ _=> ?_|refine a_shr rfl rfl fun _ _=> ?_|refine a_and rfl rfl fun _ _=> ?_|refine a_cmp rfl rfl rfl (fun _=> ?_) fun _=> ?_|refine a_eq rfl rfl (fun _=> ?_) fun _=> ?_|refine a_ne rfl rfl (fun _=> ?_) fun _=> ?_)
 refine zCl rfl (upTo_calls r [35] (by omega) (hp1 35)) ?_
 rintro _ v ⟨⟨k,rfl,hk⟩,hv⟩
 obtain rfl:=hv.symm
 refine ⟨_,rfl,?_⟩
 repeat' (first|refine za ?_|refine a_cutW rfl rfl rfl fun _ _=> ?_|refine a_catW rfl rfl fun _ _=> ?_|refine a_idxW rfl rfl fun _ _=> ?_|refine a_addW rfl rfl fun _ _=> ?_|refine a_subW rfl rfl fun _ _=> ?_|refine a_min rfl rfl fun _ _ _ _=> ?_|refine a_max rfl rfl fun _ _ _ _=> ?_|refine a_shr rfl rfl fun _ _=> ?_|refine a_and rfl rfl fun _ _=> ?_|refine a_cmp rfl rfl rfl (fun _=> ?_) fun _=> ?_|refine a_eq rfl rfl (fun _=> ?_) fun _=> ?_|refine a_ne rfl rfl (fun _=> ?_) fun _=> ?_)
 rename_i fr hfr
 refine zCl rfl (safeU_calls fr [] (by omega) (Nat.zero_le _)) ?_
 rintro _ v ⟨⟨F,rfl,hF⟩,hv⟩
 obtain rfl:=hv.symm
 refine ⟨_,rfl,?_⟩
 repeat' (first|refine za ?_|refine a_cutW rfl rfl rfl fun _ _=> ?_|refine a_catW rfl rfl fun _ _=> ?_|refine a_idxW rfl rfl fun _ _=> ?_|refine a_addW rfl rfl fun _ _=> ?_|refine a_subW rfl rfl fun _ _=> ?_|refine a_min rfl rfl fun _ _ _ _=> ?_|refine a_max rfl rfl fun _ _ _ _=> ?_|refine a_shr rfl rfl fun _ _=> ?_|refine a_and rfl rfl fun _ _=> ?_|refine a_cmp rfl rfl rfl (fun _=> ?_) fun _=> ?_|refine a_eq rfl rfl (fun _=> ?_) fun _=> ?_|refine a_ne rfl rfl (fun _=> ?_) fun _=> ?_)
 refine z_store (want_L rfl) rfl rfl rfl (by assumption) (by first|exact Nat.le_refl _|simp [Value.cells]) (by simp [Value.cells,Value.oneCell']) (fun w5 hU5=> ?_)
 have hb6:UB w5 b6 A H p [] [] F:=hU5.blk
 have hb2:UB w5 b2 [] [] 0 [] [] []:=hb2.chg hU5.chg (fun h=>hne h)
 have hC5:Chg w w5 No:=hC.upd hU5 h6ge
 repeat' (first|refine za ?_|refine a_cutW rfl rfl rfl fun _ _=> ?_|refine a_catW rfl rfl fun _ _=> ?_|refine a_idxW rfl rfl fun _ _=> ?_|refine a_addW rfl rfl fun _ _=> ?_|refine a_subW rfl rfl fun _ _=> ?_|refine a_min rfl rfl fun _ _ _ _=> ?_|refine a_max rfl rfl fun _ _ _ _=> ?_|refine a_shr rfl rfl fun _ _=> ?_|refine a_and rfl rfl fun _ _=> ?_|refine a_cmp rfl rfl rfl (fun _=> ?_) fun _=> ?_|refine a_eq rfl rfl (fun _=> ?_) fun _=> ?_|refine a_ne rfl rfl (fun _=> ?_) fun _=> ?_)
 rename_i r2 hr2
 refine zCl rfl (upTo_calls r2 [63] (by omega) (hp1 63)) ?_
 rintro _ v ⟨⟨k2,rfl,hk2⟩,hv⟩
 obtain rfl:=hv.symm
 refine ⟨_,rfl,?_⟩
 refine zz ?_
 refine zc_drawS (G23 b6 r2 k2) (fun _=>10) (fun _ w'=>T23 w5 b6 A H p F w') [(2,.pointer (some ⟨b2,0,none⟩)),(4,.string (bs A)),(5,.string (bs r2)),(6,.pointer (some ⟨b6,0,none⟩)),(12,.int .i64 k2)] (by rfl) (by kernel_rfl) (by kernel_rfl) ⟨rfl,rfl,rfl,rfl,rfl,trivial⟩ (fun w' hc _=>⟨[],[],hb6.no hc,by simp,by simp,hc.mono (fun _ _ h=>h.elim)⟩) ?_ ?_
 ·intro i' hi' bb a y hbsz hbi hcl hwt hL
  obtain ⟨hok',hTL,hd⟩:=hL
  have hi15:i'<10:=hi'
  have g: ∀j,waits _ i' j=true→ ∀dj,dstOf _ j=some dj→ ∃v,a.tmps[dj]? =some v∧G23 b6 r2 k2 j v y:=fun j hw dj hdj=>by
   obtain ⟨v,h1,h2⟩:=hd j hw dj hdj
   exact ⟨v,h1,h2 (fun hh=>hh (.inr (Nat.le_refl _)))⟩
  obtain ⟨c0,d0,hb,hc0,hd0,hCT⟩:=id hTL
  match i',hi15 with
  |0,_=>exact wo_pure rfl hok' rfl ⟨gS (d0:=89) rfl (show _=Value.string (bs r2) from rfl),gT (d0:=89) rfl,hTL,fun _ _ _ _ h=>h⟩
  |1,_=>exact wo_pure rfl hok' rfl ⟨gS (d0:=90) rfl (show _=Value.int .i64 k2 from rfl),gT (d0:=90) rfl,hTL,fun _ _ _ _ h=>h⟩
  |2,_=>
   obtain ⟨v1,hv1,e1⟩:=g 0 (by kernel_rfl) _ rfl
   obtain ⟨v2,hv2,e2⟩:=g 1 (by kernel_rfl) _ rfl
   have e1:v1= .string (bs r2):=e1
   have e2:v2= .int .i64 k2:=e2
   subst e1;subst e2
   exact wo_run rfl (want_L rfl) rfl ((hok'.cons hv1).cons hv2) (r_cutN k2 r2.length rfl rfl rfl rfl rfl hk2 (Nat.le_refl _)) ⟨gS (d0:=91) rfl (show∃s:List UInt8,Value.string (bs ((r2.drop k2).take (r2.length - k2)))=Value.string (bs s)∧s.length≤300 from ⟨_,rfl,by rw [List.length_take,List.length_drop];omega⟩),gT (d0:=91) rfl,hTL,fun _ _ _ _ h=>h⟩
  |3,_=>exact wo_pure rfl hok' rfl ⟨gS (d0:=92) rfl (show _=Value.string (bs r2) from rfl),gT (d0:=92) rfl,hTL,fun _ _ _ _ h=>h⟩
  |4,_=>exact wo_pure rfl hok' rfl ⟨gS (d0:=93) rfl (show _=Value.int .i64 k2 from rfl),gT (d0:=93) rfl,hTL,fun _ _ _ _ h=>h⟩
  |5,_=>
   obtain ⟨v1,hv1,e1⟩:=g 3 (by kernel_rfl) _ rfl
   obtain ⟨v2,hv2,e2⟩:=g 4 (by kernel_rfl) _ rfl
   have e1:v1= .string (bs r2):=e1
   have e2:v2= .int .i64 k2:=e2
   subst e1;subst e2
   exact wo_run rfl (want_L rfl) rfl ((hok'.cons hv1).cons hv2) (r_cutN 0 k2 rfl rfl rfl rfl rfl (Nat.zero_le _) hk2) ⟨gS (d0:=94) rfl (show∃s:List UInt8,Value.string (bs ((r2.drop 0).take (k2 - 0)))=Value.string (bs s)∧s.length≤300 from ⟨_,rfl,by rw [List.length_take,List.length_drop];omega⟩),gT (d0:=94) rfl,hTL,fun _ _ _ _ h=>h⟩
  |6,_=>exact wo_run rfl (want_L rfl) rfl hok' (r_fa rfl) ⟨gS (d0:=95) rfl (show _=Value.pointer (some ⟨b6,4,none⟩) from rfl),gT (d0:=95) rfl,hTL,fun _ _ _ _ h=>h⟩
  |7,_=>
   obtain ⟨v1,hv1,s,e1,hs1⟩:=g 2 (by kernel_rfl) _ rfl
   obtain ⟨v2,hv2,e2⟩:=g 6 (by kernel_rfl) _ rfl
   have e2:v2= .pointer (some ⟨b6,4,none⟩):=e2
   subst e1;subst e2
   refine wo_store rfl (want_L rfl) ((hok'.cons hv1).cons hv2) rfl rfl (by rfl) hb (by simp [Value.cells]) (by simp [Value.cells,Value.oneCell']) (fun y' hU=> ?_)
   exact ⟨gN rfl,fun _=>rfl,⟨c0,s,hU.blk,hc0,hs1,hCT.trans hU.chg (fun k _ hk=>hk)⟩,fun _ _ _ _ h=>h⟩
  |8,_=>exact wo_run rfl (want_L rfl) rfl hok' (r_fa rfl) ⟨gS (d0:=96) rfl (show _=Value.pointer (some ⟨b6,3,none⟩) from rfl),gT (d0:=96) rfl,hTL,fun _ _ _ _ h=>h⟩
  |9,_=>
   obtain ⟨v1,hv1,s,e1,hs1⟩:=g 5 (by kernel_rfl) _ rfl
   obtain ⟨v2,hv2,e2⟩:=g 8 (by kernel_rfl) _ rfl
   have e2:v2= .pointer (some ⟨b6,3,none⟩):=e2
   subst e1;subst e2
   refine wo_store rfl (want_L rfl) ((hok'.cons hv1).cons hv2) rfl rfl (by rfl) hb (by simp [Value.cells]) (by simp [Value.cells,Value.oneCell']) (fun y' hU=> ?_)
   exact ⟨gN rfl,fun _=>rfl,⟨s,d0,hU.blk,hs1,hd0,hCT.trans hU.chg (fun k _ hk=>hk)⟩,fun _ _ _ _ h=>h⟩
 intro bb a w6 hall hL
 refine np_zk (e:= [(2,.pointer (some ⟨b2,0,none⟩)),(4,.string (bs A)),(5,.string (bs r2)),(6,.pointer (some ⟨b6,0,none⟩)),(12,.int .i64 k2)]) ?_ hL.ok
 obtain ⟨c1,d1,hb6,hc1,hd1,hC56⟩:=hL.t
 have hb2:UB w6 b2 [] [] 0 [] [] []:=hb2.chg hC56 (fun h=>hne h)
 have hC6:Chg w w6 No:=hC5.trans hC56 (fun j hj hs=>by have hs:j=b6:=hs;omega)
 clear hL hall hC56
 refine zK ?_
 refine zc_midX (ι:=List UInt8×List UInt8) (fun q u=>UB u b6 A H p q.1 q.2 F∧UB u b2 [] [] 0 [] [] []∧q.1.length≤4000000∧q.2.length≤4000000∧Chg w u No) (fun q=> [(2,.pointer (some ⟨b2,0,none⟩)),(6,.pointer (some ⟨b6,0,none⟩))]) ?_ ?_
 ·refine zS (zR (zP rfl ?_))
  refine zCl rfl (web_calls A) ?_
  rintro _ v ⟨⟨q,rfl⟩,hv⟩
  obtain rfl:=hv.symm
  refine ⟨_,rfl,?_⟩
  cases q
  rotate_left
  ·skip
   refine zN (zK (zT rfl ?_))
   refine zc_drawS (G25 b6) (fun _=>11) (T25 w6 b6 A H p F 10 8) [(2,.pointer (some ⟨b2,0,none⟩)),(6,.pointer (some ⟨b6,0,none⟩))] (by rfl) (by kernel_rfl) (by kernel_rfl) ⟨rfl,rfl,trivial⟩ (fun w' hc _=>⟨c1,d1,hb6.no hc,by omega,by omega,(fun _=>hc1),(fun _=>hd1),hc.mono (fun _ _ h=>h.elim)⟩) ?_ ?_
   ·intro i' hi' bb a y hbsz hbi hcl hwt hL
    obtain ⟨hok',hTL,hd⟩:=hL
    have hi15:i'<11:=hi'
    have g: ∀j,waits _ i' j=true→ ∀dj,dstOf _ j=some dj→ ∃v,a.tmps[dj]? =some v∧G25 b6 j v y:=fun j hw dj hdj=>by
     obtain ⟨v,h1,h2⟩:=hd j hw dj hdj
     exact ⟨v,h1,h2 (fun hh=>hh (.inr (Nat.le_refl _)))⟩
    obtain ⟨c0,d0,hb,hc0,hd0,hcs,hds,hCT⟩:=id hTL
    have hno: ∀{k:Nat} {y':World},k≠10→k≠8→Chg y y' No→T25 w6 b6 A H p F 10 8 (bb.setIfInBounds k true) y':=fun h1 h2 h3=>hTL.no h1 h2 h3
    match i',hi15 with
    |0,_=>exact wo_run rfl (want_L rfl) rfl hok' (r_fa rfl) ⟨gS (d0:=99) rfl (show _=Value.pointer (some ⟨b6,4,none⟩) from rfl),gT (d0:=99) rfl,hno (by decide) (by decide) (Chg.refl _ _),fun _ _ _ _ h=>h⟩
    |1,_=>
     obtain ⟨v1,hv1,e1⟩:=g 0 (by kernel_rfl) _ rfl
     have e1:v1= .pointer (some ⟨b6,4,none⟩):=e1
     subst e1
     have hsm:d0.length≤300:=hds (by
      rcases h13:bb.getD 8 false with _|_
      ·rfl
      ·skip
       have q0:=hcl 8 2 h13 (by kernel_rfl)
       have q1:=hcl 2 1 q0 (by kernel_rfl)
       rw [hbi] at q1;cases q1)
     exact wo_run rfl (want_L rfl) rfl (hok'.cons hv1) (r_loadB rfl hb (by rfl)) ⟨gS (d0:=100) rfl (show∃s:List UInt8,Value.string (bs d0)=Value.string (bs s)∧s.length≤300 from ⟨_,rfl,hsm⟩),gT (d0:=100) rfl,hno (by decide) (by decide) (Chg.refl _ _),fun _ _ _ _ h=>h⟩
    |2,_=>
     obtain ⟨v1,hv1,s,e1,hs1⟩:=g 1 (by kernel_rfl) _ rfl
     subst e1
     refine wo_call rfl (want_L rfl) rfl (hok'.cons hv1) rfl (safeU_calls s [39] (by omega) (hp1 39)) ?_
     rintro _ y' ⟨⟨s2,rfl,hs2⟩,hy⟩
     obtain rfl:=hy.symm
     exact ⟨_,rfl,gS (d0:=101) rfl (show∃s:List UInt8,Value.string (bs s2)=Value.string (bs s)∧s.length≤4000000 from ⟨_,rfl,by omega⟩),gT (d0:=101) rfl,hno (by decide) (by decide) (Chg.refl _ _),fun _ _ _ _ h=>h⟩
    |3,_=>exact wo_run rfl (want_L rfl) rfl hok' (r_fa rfl) ⟨gS (d0:=102) rfl (show _=Value.pointer (some ⟨b6,3,none⟩) from rfl),gT (d0:=102) rfl,hno (by decide) (by decide) (Chg.refl _ _),fun _ _ _ _ h=>h⟩
    |4,_=>
     obtain ⟨v1,hv1,e1⟩:=g 3 (by kernel_rfl) _ rfl
     have e1:v1= .pointer (some ⟨b6,3,none⟩):=e1
     subst e1
     have hsm:c0.length≤300:=hcs (by
      rcases h13:bb.getD 10 false with _|_
      ·rfl
      ·skip
       have q0:=hcl 10 6 h13 (by kernel_rfl)
       have q1:=hcl 6 5 q0 (by kernel_rfl)
       have q2:=hcl 5 4 q1 (by kernel_rfl)
       rw [hbi] at q2;cases q2)
     exact wo_run rfl (want_L rfl) rfl (hok'.cons hv1) (r_loadB rfl hb (by rfl)) ⟨gS (d0:=103) rfl (show∃s:List UInt8,Value.string (bs c0)=Value.string (bs s)∧s.length≤300 from ⟨_,rfl,hsm⟩),gT (d0:=103) rfl,hno (by decide) (by decide) (Chg.refl _ _),fun _ _ _ _ h=>h⟩
    |5,_=>
     obtain ⟨v1,hv1,s,e1,hs1⟩:=g 4 (by kernel_rfl) _ rfl
     subst e1
     refine wo_call rfl (want_L rfl) rfl (hok'.cons hv1) rfl (path_calls s (by omega)) ?_
     rintro _ y' ⟨⟨s2,rfl,hs2⟩,hy⟩
     exact ⟨_,rfl,gS (d0:=104) rfl (show∃s:List UInt8,Value.string (bs s2)=Value.string (bs s)∧s.length≤1010000 from ⟨_,rfl,hs2⟩),gT (d0:=104) rfl,hno (by decide) (by decide) hy,fun _ _ _ _ h=>h⟩
    |6,_=>
     obtain ⟨v1,hv1,s,e1,hs1⟩:=g 5 (by kernel_rfl) _ rfl
     subst e1
     refine wo_call rfl (want_L rfl) rfl (hok'.cons hv1) rfl (safeU_calls s [123,125] (by omega) (hp2 123 125)) ?_
     rintro _ y' ⟨⟨s2,rfl,hs2⟩,hy⟩
     obtain rfl:=hy.symm
     exact ⟨_,rfl,gS (d0:=105) rfl (show∃s:List UInt8,Value.string (bs s2)=Value.string (bs s)∧s.length≤4000000 from ⟨_,rfl,by omega⟩),gT (d0:=105) rfl,hno (by decide) (by decide) (Chg.refl _ _),fun _ _ _ _ h=>h⟩
    |7,_=>exact wo_run rfl (want_L rfl) rfl hok' (r_fa rfl) ⟨gS (d0:=106) rfl (show _=Value.pointer (some ⟨b6,4,none⟩) from rfl),gT (d0:=106) rfl,hno (by decide) (by decide) (Chg.refl _ _),fun _ _ _ _ h=>h⟩
    |8,_=>
     obtain ⟨v1,hv1,s,e1,hs1⟩:=g 2 (by kernel_rfl) _ rfl
     obtain ⟨v2,hv2,e2⟩:=g 7 (by kernel_rfl) _ rfl
     have e2:v2= .pointer (some ⟨b6,4,none⟩):=e2
     subst e1;subst e2
     have hbz:8<bb.size:=hbsz▸hi'
     refine wo_store rfl (want_L rfl) ((hok'.cons hv1).cons hv2) rfl rfl (by rfl) hb (by simp [Value.cells]) (by simp [Value.cells,Value.oneCell']) (fun y' hU=> ?_)
     exact ⟨gN rfl,fun _=>rfl,⟨c0,s,hU.blk,hc0,hs1,(fun h=>hcs (by rwa [gd_ne (by decide)] at h)),(fun h=>by rw [gd_eq (by omega)] at h;cases h),hCT.trans hU.chg (fun k _ hk=>hk)⟩,fun _ _ _ _ h=>h⟩
    |9,_=>exact wo_run rfl (want_L rfl) rfl hok' (r_fa rfl) ⟨gS (d0:=107) rfl (show _=Value.pointer (some ⟨b6,3,none⟩) from rfl),gT (d0:=107) rfl,hno (by decide) (by decide) (Chg.refl _ _),fun _ _ _ _ h=>h⟩
    |10,_=>
     obtain ⟨v1,hv1,s,e1,hs1⟩:=g 6 (by kernel_rfl) _ rfl
     obtain ⟨v2,hv2,e2⟩:=g 9 (by kernel_rfl) _ rfl
     have e2:v2= .pointer (some ⟨b6,3,none⟩):=e2
     subst e1;subst e2
     have hbz:10<bb.size:=hbsz▸hi'
     refine wo_store rfl (want_L rfl) ((hok'.cons hv1).cons hv2) rfl rfl (by rfl) hb (by simp [Value.cells]) (by simp [Value.cells,Value.oneCell']) (fun y' hU=> ?_)
     exact ⟨gN rfl,fun _=>rfl,⟨s,d0,hU.blk,hs1,hd0,(fun h=>by rw [gd_eq (by omega)] at h;cases h),(fun h=>hds (by rwa [gd_ne (by decide)] at h)),hCT.trans hU.chg (fun k _ hk=>hk)⟩,fun _ _ _ _ h=>h⟩
   intro bb a w7 hall hL
   refine np_zk (e:= [(2,.pointer (some ⟨b2,0,none⟩)),(6,.pointer (some ⟨b6,0,none⟩))]) ?_ hL.ok
   obtain ⟨c2,d2,hb62,hc2,hd2,_,_,hC67⟩:=hL.t
   exact zk_midX (c2,d2) ⟨hb62,hb2.chg hC67 (fun h=>hne h),hc2,hd2,hC6.trans hC67 (fun j hj hs=>by have hs:j=b6:=hs;omega)⟩ ⟨rfl,rfl,trivial⟩
  refine zN (zK (zF rfl ?_))
  refine zc_drawS (G26 b6) (fun _=>10) (T25 w6 b6 A H p F 9 7) [(2,.pointer (some ⟨b2,0,none⟩)),(6,.pointer (some ⟨b6,0,none⟩))] (by rfl) (by kernel_rfl) (by kernel_rfl) ⟨rfl,rfl,trivial⟩ (fun w' hc _=>⟨c1,d1,hb6.no hc,by omega,by omega,(fun _=>hc1),(fun _=>hd1),hc.mono (fun _ _ h=>h.elim)⟩) ?_ ?_
  ·intro i' hi' bb a y hbsz hbi hcl hwt hL
   obtain ⟨hok',hTL,hd⟩:=hL
   have hi15:i'<10:=hi'
   have g: ∀j,waits _ i' j=true→ ∀dj,dstOf _ j=some dj→ ∃v,a.tmps[dj]? =some v∧G26 b6 j v y:=fun j hw dj hdj=>by
    obtain ⟨v,h1,h2⟩:=hd j hw dj hdj
    exact ⟨v,h1,h2 (fun hh=>hh (.inr (Nat.le_refl _)))⟩
   obtain ⟨c0,d0,hb,hc0,hd0,hcs,hds,hCT⟩:=id hTL
   have hno: ∀{k:Nat} {y':World},k≠9→k≠7→Chg y y' No→T25 w6 b6 A H p F 9 7 (bb.setIfInBounds k true) y':=fun h1 h2 h3=>hTL.no h1 h2 h3
   match i',hi15 with
   |0,_=>exact wo_run rfl (want_L rfl) rfl hok' (r_fa rfl) ⟨gS (d0:=108) rfl (show _=Value.pointer (some ⟨b6,4,none⟩) from rfl),gT (d0:=108) rfl,hno (by decide) (by decide) (Chg.refl _ _),fun _ _ _ _ h=>h⟩
   |1,_=>
    obtain ⟨v1,hv1,e1⟩:=g 0 (by kernel_rfl) _ rfl
    have e1:v1= .pointer (some ⟨b6,4,none⟩):=e1
    subst e1
    have hsm:d0.length≤300:=hds (by
     rcases h13:bb.getD 7 false with _|_
     ·rfl
     ·skip
      have q0:=hcl 7 2 h13 (by kernel_rfl)
      have q1:=hcl 2 1 q0 (by kernel_rfl)
      rw [hbi] at q1;cases q1)
    exact wo_run rfl (want_L rfl) rfl (hok'.cons hv1) (r_loadB rfl hb (by rfl)) ⟨gS (d0:=109) rfl (show∃s:List UInt8,Value.string (bs d0)=Value.string (bs s)∧s.length≤300 from ⟨_,rfl,hsm⟩),gT (d0:=109) rfl,hno (by decide) (by decide) (Chg.refl _ _),fun _ _ _ _ h=>h⟩
   |2,_=>
    obtain ⟨v1,hv1,s,e1,hs1⟩:=g 1 (by kernel_rfl) _ rfl
    subst e1
    refine wo_call rfl (want_L rfl) rfl (hok'.cons hv1) rfl (safeU_calls s [] (by omega) (Nat.zero_le _)) ?_
    rintro _ y' ⟨⟨s2,rfl,hs2⟩,hy⟩
    obtain rfl:=hy.symm
    exact ⟨_,rfl,gS (d0:=110) rfl (show∃s:List UInt8,Value.string (bs s2)=Value.string (bs s)∧s.length≤4000000 from ⟨_,rfl,by omega⟩),gT (d0:=110) rfl,hno (by decide) (by decide) (Chg.refl _ _),fun _ _ _ _ h=>h⟩
   |3,_=>exact wo_run rfl (want_L rfl) rfl hok' (r_fa rfl) ⟨gS (d0:=111) rfl (show _=Value.pointer (some ⟨b6,3,none⟩) from rfl),gT (d0:=111) rfl,hno (by decide) (by decide) (Chg.refl _ _),fun _ _ _ _ h=>h⟩
   |4,_=>
    obtain ⟨v1,hv1,e1⟩:=g 3 (by kernel_rfl) _ rfl
    have e1:v1= .pointer (some ⟨b6,3,none⟩):=e1
    subst e1
    have hsm:c0.length≤300:=hcs (by
     rcases h13:bb.getD 9 false with _|_
     ·rfl
     ·skip
      have q0:=hcl 9 5 h13 (by kernel_rfl)
      have q1:=hcl 5 4 q0 (by kernel_rfl)
      rw [hbi] at q1;cases q1)
    exact wo_run rfl (want_L rfl) rfl (hok'.cons hv1) (r_loadB rfl hb (by rfl)) ⟨gS (d0:=112) rfl (show∃s:List UInt8,Value.string (bs c0)=Value.string (bs s)∧s.length≤300 from ⟨_,rfl,hsm⟩),gT (d0:=112) rfl,hno (by decide) (by decide) (Chg.refl _ _),fun _ _ _ _ h=>h⟩
   |5,_=>
    obtain ⟨v1,hv1,s,e1,hs1⟩:=g 4 (by kernel_rfl) _ rfl
    subst e1
    refine wo_call rfl (want_L rfl) rfl (hok'.cons hv1) rfl (safeU_calls s [] (by omega) (Nat.zero_le _)) ?_
    rintro _ y' ⟨⟨s2,rfl,hs2⟩,hy⟩
    obtain rfl:=hy.symm
    exact ⟨_,rfl,gS (d0:=113) rfl (show∃s:List UInt8,Value.string (bs s2)=Value.string (bs s)∧s.length≤4000000 from ⟨_,rfl,by omega⟩),gT (d0:=113) rfl,hno (by decide) (by decide) (Chg.refl _ _),fun _ _ _ _ h=>h⟩
   |6,_=>exact wo_run rfl (want_L rfl) rfl hok' (r_fa rfl) ⟨gS (d0:=114) rfl (show _=Value.pointer (some ⟨b6,4,none⟩) from rfl),gT (d0:=114) rfl,hno (by decide) (by decide) (Chg.refl _ _),fun _ _ _ _ h=>h⟩
   |7,_=>
    obtain ⟨v1,hv1,s,e1,hs1⟩:=g 2 (by kernel_rfl) _ rfl
    obtain ⟨v2,hv2,e2⟩:=g 6 (by kernel_rfl) _ rfl
    have e2:v2= .pointer (some ⟨b6,4,none⟩):=e2
    subst e1;subst e2
    have hbz:7<bb.size:=hbsz▸hi'
    refine wo_store rfl (want_L rfl) ((hok'.cons hv1).cons hv2) rfl rfl (by rfl) hb (by simp [Value.cells]) (by simp [Value.cells,Value.oneCell']) (fun y' hU=> ?_)
    exact ⟨gN rfl,fun _=>rfl,⟨c0,s,hU.blk,hc0,hs1,(fun h=>hcs (by rwa [gd_ne (by decide)] at h)),(fun h=>by rw [gd_eq (by omega)] at h;cases h),hCT.trans hU.chg (fun k _ hk=>hk)⟩,fun _ _ _ _ h=>h⟩
   |8,_=>exact wo_run rfl (want_L rfl) rfl hok' (r_fa rfl) ⟨gS (d0:=115) rfl (show _=Value.pointer (some ⟨b6,3,none⟩) from rfl),gT (d0:=115) rfl,hno (by decide) (by decide) (Chg.refl _ _),fun _ _ _ _ h=>h⟩
   |9,_=>
    obtain ⟨v1,hv1,s,e1,hs1⟩:=g 5 (by kernel_rfl) _ rfl
    obtain ⟨v2,hv2,e2⟩:=g 8 (by kernel_rfl) _ rfl
    have e2:v2= .pointer (some ⟨b6,3,none⟩):=e2
    subst e1;subst e2
    have hbz:9<bb.size:=hbsz▸hi'
    refine wo_store rfl (want_L rfl) ((hok'.cons hv1).cons hv2) rfl rfl (by rfl) hb (by simp [Value.cells]) (by simp [Value.cells,Value.oneCell']) (fun y' hU=> ?_)
    exact ⟨gN rfl,fun _=>rfl,⟨s,d0,hU.blk,hs1,hd0,(fun h=>by rw [gd_eq (by omega)] at h;cases h),(fun h=>hds (by rwa [gd_ne (by decide)] at h)),hCT.trans hU.chg (fun k _ hk=>hk)⟩,fun _ _ _ _ h=>h⟩
  intro bb a w7 hall hL
  refine np_zk (e:= [(2,.pointer (some ⟨b2,0,none⟩)),(6,.pointer (some ⟨b6,0,none⟩))]) ?_ hL.ok
  obtain ⟨c2,d2,hb62,hc2,hd2,_,_,hC67⟩:=hL.t
  exact zk_midX (c2,d2) ⟨hb62,hb2.chg hC67 (fun h=>hne h),hc2,hd2,hC6.trans hC67 (fun j hj hs=>by have hs:j=b6:=hs;omega)⟩ ⟨rfl,rfl,trivial⟩
 rintro ⟨c,d⟩ u ⟨hb6,hb2,hc,hd,hC⟩
 dsimp only at hb6 hb2 hc hd ⊢
 have hV:UrlV (.agg #[.string (bs A),.string (bs H),.int .i64 p,.string (bs c),.string (bs d),.string (bs F)]) 4000000:=UrlV.mk' (by omega) (by omega) hc hd (by omega) hp
 refine zz ?_
 refine zCl rfl (utext_calls hV (by omega)) ?_
 rintro _ w7 ⟨⟨s,rfl,hs⟩,hC7⟩
 refine ⟨_,rfl,?_⟩
 have hb6:=hb6.no hC7
 have hb2:=hb2.no hC7
 repeat' (first|refine za ?_|refine a_cutW rfl rfl rfl fun _ _=> ?_|refine a_catW rfl rfl fun _ _=> ?_|refine a_idxW rfl rfl fun _ _=> ?_|refine a_addW rfl rfl fun _ _=> ?_|refine a_subW rfl rfl fun _ _=> ?_|refine a_min rfl rfl fun _ _ _ _=> ?_|refine a_max rfl rfl fun _ _ _ _=> ?_|refine a_shr rfl rfl fun _ _=> ?_|refine a_and rfl rfl fun _ _=> ?_|refine a_cmp rfl rfl rfl (fun _=> ?_) fun _=> ?_|refine a_eq rfl rfl (fun _=> ?_) fun _=> ?_|refine a_ne rfl rfl (fun _=> ?_) fun _=> ?_)
 ·refine z_buildE #[.string (bs []),.string (bs []),.int .i64 ((0:Nat):Int),.string (bs []),.string (bs []),.string (bs [])] (want_L rfl) (by decide) rfl (by kernel_rfl) ?_
  refine z_store (want_L rfl) rfl rfl rfl (by assumption) (by first|exact Nat.le_refl _|simp [Value.cells]) (by simp [Value.cells,Value.oneCell']) (fun w8 hU8=> ?_)
  have hb8:UB w8 b2 [] [] 0 [] [] []:=hU8.blk
  refine zz ?_
  exact zk_retCT (.inr rfl) rfl rfl rfl hb8 rfl ⟨hbad 8,(hC.no hC7).upd hU8 h2ge⟩
 ·refine z_store (want_L rfl) rfl rfl rfl (by assumption) (by first|exact Nat.le_refl _|simp [Value.cells]) (by simp [Value.cells,Value.oneCell']) (fun w8 hU8=> ?_)
  have hb8:UB w8 b2 A H p c d F:=hU8.blk
  refine zz ?_
  exact zk_retCT (.inr rfl) rfl rfl rfl hb8 rfl ⟨⟨_,_,rfl,hV⟩,(hC.no hC7).upd hU8 h2ge⟩
open Go Go.Z Go.Proofs T
theorem wordsN_le: ∀(l cur:List UInt8),(∀x∈wordsN cur l,x.length≤cur.length+l.length)∧(wordsN cur l).length≤l.length+1
 | [],cur=>by
  simp only [wordsN]
  split
  ·simp
  ·simp
 |c::r,cur=>by
  have h1:=wordsN_le r []
  have h2:=wordsN_le r (cur++ [c])
  simp only [List.length_nil,List.length_append,List.length_cons] at h1 h2
  simp only [wordsN,List.length_cons]
  split
  ·split
   ·exact ⟨fun x hx=>by have:=h1.1 x hx;omega,by omega⟩
   ·refine ⟨fun x hx=> ?_,by simp only [List.length_cons];omega⟩
    rcases List.mem_cons.1 hx with rfl|hx
    ·omega
    ·have:=h1.1 x hx;omega
  ·exact ⟨fun x hx=>by have:=h2.1 x hx;omega,by omega⟩
theorem sized_calls {w:World} (l:List UInt8) (hl:l.length≤big):Calls Tryz.prog 139 [.string (bs l)].toArray w fun e w'=>(∃q:Bool,e= .returned (.bool q))∧w'=w:=by
 have hbig:big=1000000000000:=rfl
 refine zCz 43 Tryz.func139 ?_
 repeat' (first|refine za ?_|refine a_cutW rfl rfl rfl fun _ _=> ?_|refine a_catW rfl rfl fun _ _=> ?_|refine a_idxW rfl rfl fun _ _=> ?_|refine a_addW rfl rfl fun _ _=> ?_|refine a_subW rfl rfl fun _ _=> ?_|refine a_min rfl rfl fun _ _ _ _=> ?_|refine a_max rfl rfl fun _ _ _ _=> ?_|refine a_shr rfl rfl fun _ _=> ?_|refine a_and rfl rfl fun _ _=> ?_|refine a_cmp rfl rfl rfl (fun _=> ?_) fun _=> ?_|refine a_eq rfl rfl (fun _=> ?_) fun _=> ?_|refine a_ne rfl rfl (fun _=> ?_) fun _=> ?_)
 ·exact zk_ret1 (.inr rfl) rfl rfl ⟨⟨_,rfl⟩,rfl⟩
 rename_i hne
 have hpos:0<l.length:=List.length_pos_iff.2 hne
 repeat' (first|refine za ?_|refine a_cutW rfl rfl rfl fun _ _=> ?_|refine a_catW rfl rfl fun _ _=> ?_|refine a_idxW rfl rfl fun _ _=> ?_|refine a_addW rfl rfl fun _ _=> ?_|refine a_subW rfl rfl fun _ _=> ?_|refine a_min rfl rfl fun _ _ _ _=> ?_|refine a_max rfl rfl fun _ _ _ _=> ?_|refine a_shr rfl rfl fun _ _=> ?_|refine a_and rfl rfl fun _ _=> ?_|refine a_cmp rfl rfl rfl (fun _=> ?_) fun _=> ?_|refine a_eq rfl rfl (fun _=> ?_) fun _=> ?_|refine a_ne rfl rfl (fun _=> ?_) fun _=> ?_)
 refine zc_loopW (ι:=Nat) (fun i u=> [(0,.string (bs l)),(3,.int .i64 ((l.length:Int) - 1)),(4,.int .i64 (i:Nat))]) (fun i u=>i≤l.length - 1∧u=w) (fun i u=>l.length - i) 0 ⟨Nat.zero_le _,rfl⟩ ⟨rfl,rfl,rfl,trivial⟩ ?_
 rintro i u ⟨hi,hu⟩
 obtain rfl:=hu.symm
 by_cases hlt:i<l.length - 1
 ·repeat' (first|refine za ?_|refine a_cutW rfl rfl rfl fun _ _=> ?_|refine a_catW rfl rfl fun _ _=> ?_|refine a_idxW rfl rfl fun _ _=> ?_|refine a_addW rfl rfl fun _ _=> ?_|refine a_subW rfl rfl fun _ _=> ?_|refine a_min rfl rfl fun _ _ _ _=> ?_|refine a_max rfl rfl fun _ _ _ _=> ?_|refine a_shr rfl rfl fun _ _=> ?_|refine a_and rfl rfl fun _ _=> ?_|refine a_cmp rfl rfl rfl (fun _=> ?_) fun _=> ?_|refine a_eq rfl rfl (fun _=> ?_) fun _=> ?_|refine a_ne rfl rfl (fun _=> ?_) fun _=> ?_)
  all_goals first|exact zk_ret1 (.inr rfl) rfl rfl ⟨⟨_,rfl⟩,rfl⟩|exact zk_loopW (i+1) ⟨by omega,rfl⟩ (by omega) ⟨rfl,rfl,get_int rfl (by omega),trivial⟩
 ·repeat' (first|refine za ?_|refine a_cutW rfl rfl rfl fun _ _=> ?_|refine a_catW rfl rfl fun _ _=> ?_|refine a_idxW rfl rfl fun _ _=> ?_|refine a_addW rfl rfl fun _ _=> ?_|refine a_subW rfl rfl fun _ _=> ?_|refine a_min rfl rfl fun _ _ _ _=> ?_|refine a_max rfl rfl fun _ _ _ _=> ?_|refine a_shr rfl rfl fun _ _=> ?_|refine a_and rfl rfl fun _ _=> ?_|refine a_cmp rfl rfl rfl (fun _=> ?_) fun _=> ?_|refine a_eq rfl rfl (fun _=> ?_) fun _=> ?_|refine a_ne rfl rfl (fun _=> ?_) fun _=> ?_)
  all_goals exact zk_ret1 (.inr rfl) rfl rfl ⟨⟨_,rfl⟩,rfl⟩
def sImgs:List UInt8:= [105,109,97,103,101,47,103,105,102,32,105,109,97,103,101,47,106,112,101,103,32,105,109,97,103,101,47,112,110,103,32,105,109,97,103,101,47,119,101,98,112]
theorem fit_calls {w:World} {v:Value} {m:Nat} (h:UrlV v m) (hm:m≤100000000) (k:Int):Calls Tryz.prog 136 [v,.int .i64 k].toArray w fun e w'=>(∃q:Bool,e= .returned (.bool q))∧Chg w w' No:=by
 have hbig:big=1000000000000:=rfl
 obtain ⟨a,b,p,c,d,f,rfl,h1,h2,h3,h4,h5,h6⟩:=h
 refine zCz 55 Tryz.func136 ?_
 refine zS (zR ?_)
 refine zBx rfl (fun w1 b1 hN1=> ?_)
 have hb1:Blk w1 b1 153 [.string (bs a),.string (bs b),.int .i64 p,.string (bs c),.string (bs d),.string (bs f)]:=hN1.blk
 by_cases hk1:k=1
 ·subst hk1
  refine zz ?_
  refine zCl rfl (web_calls a) ?_
  rintro _ v ⟨⟨q,rfl⟩,hv⟩
  obtain rfl:=hv.symm
  refine ⟨_,rfl,?_⟩
  cases q
  all_goals (repeat' (first|refine za ?_|refine a_cutW rfl rfl rfl fun _ _=> ?_|refine a_catW rfl rfl fun _ _=> ?_|refine a_idxW rfl rfl fun _ _=> ?_|refine a_addW rfl rfl fun _ _=> ?_|refine a_subW rfl rfl fun _ _=> ?_|refine a_min rfl rfl fun _ _ _ _=> ?_|refine a_max rfl rfl fun _ _ _ _=> ?_|refine a_shr rfl rfl fun _ _=> ?_|refine a_and rfl rfl fun _ _=> ?_|refine a_cmp rfl rfl rfl (fun _=> ?_) fun _=> ?_|refine a_eq rfl rfl (fun _=> ?_) fun _=> ?_|refine a_ne rfl rfl (fun _=> ?_) fun _=> ?_))
  all_goals exact zk_ret1 (.inr rfl) rfl rfl ⟨⟨_,rfl⟩,hN1.chg⟩
 by_cases hk2:k=2
 rotate_left
 ·repeat' (first|refine za ?_|refine a_cutW rfl rfl rfl fun _ _=> ?_|refine a_catW rfl rfl fun _ _=> ?_|refine a_idxW rfl rfl fun _ _=> ?_|refine a_addW rfl rfl fun _ _=> ?_|refine a_subW rfl rfl fun _ _=> ?_|refine a_min rfl rfl fun _ _ _ _=> ?_|refine a_max rfl rfl fun _ _ _ _=> ?_|refine a_shr rfl rfl fun _ _=> ?_|refine a_and rfl rfl fun _ _=> ?_|refine a_cmp rfl rfl rfl (fun _=> ?_) fun _=> ?_|refine a_eq rfl rfl (fun _=> ?_) fun _=> ?_|refine a_ne rfl rfl (fun _=> ?_) fun _=> ?_)
  all_goals exact zk_ret1 (.inr rfl) rfl rfl ⟨⟨_,rfl⟩,hN1.chg⟩
 subst hk2
 refine zz ?_
 refine zCl rfl (wordsR_calls (l:=sImgs) (by decide)) ?_
 rintro _ w2 ⟨v5,rfl,hO,hC2⟩
 refine ⟨_,rfl,?_⟩
 obtain ⟨hw1,hw2⟩:=wordsN_le sImgs []
 have hsl:sImgs.length=41:=by decide
 obtain ⟨ls,hls⟩: ∃x,x=wordsN [] sImgs:=⟨_,rfl⟩
 rw [←hls] at hO hw1 hw2
 rw [hsl] at hw1 hw2
 have hR:Row 0 w2 v5 ls 41:=⟨hO,fun _ _=>Nat.zero_le _,fun x hx=>by have:=hw1 x hx;simpa using this⟩
 obtain ⟨A5,c5,rfl,hc5⟩:=hR.form
 have hb2:=hb1.no hC2
 refine zz ?_
 refine zCl rfl (fold_calls c (by omega)) ?_
 rintro _ w3 ⟨⟨s,rfl,hs⟩,hC3⟩
 refine ⟨_,rfl,?_⟩
 have hb3:=hb2.no hC3
 have hR3:=hR.no hC3
 refine zz ?_
 refine zc_loopW (ι:=Nat) (fun i u=> [(2,.pointer (some ⟨b1,0,none⟩)),(5,.slice A5 ls.length c5),(6,.string (bs s)),(7,.int .i64 (i:Nat))]) (fun i u=>i≤ls.length∧u=w3) (fun i u=>ls.length - i) 0 ⟨Nat.zero_le _,rfl⟩ ⟨rfl,rfl,rfl,rfl,trivial⟩ ?_
 rintro i u ⟨hi,hu⟩
 obtain rfl:=hu.symm
 have hCw:Chg w w3 No:=(hN1.chg.no hC2).no hC3
 by_cases hlt:i<ls.length
 rotate_left
 ·refine zz ?_
  refine zCl rfl (web_calls a) ?_
  rintro _ v ⟨⟨q,rfl⟩,hv⟩
  obtain rfl:=hv.symm
  refine ⟨_,rfl,?_⟩
  repeat' (first|refine za ?_|refine a_cutW rfl rfl rfl fun _ _=> ?_|refine a_catW rfl rfl fun _ _=> ?_|refine a_idxW rfl rfl fun _ _=> ?_|refine a_addW rfl rfl fun _ _=> ?_|refine a_subW rfl rfl fun _ _=> ?_|refine a_min rfl rfl fun _ _ _ _=> ?_|refine a_max rfl rfl fun _ _ _ _=> ?_|refine a_shr rfl rfl fun _ _=> ?_|refine a_and rfl rfl fun _ _=> ?_|refine a_cmp rfl rfl rfl (fun _=> ?_) fun _=> ?_|refine a_eq rfl rfl (fun _=> ?_) fun _=> ?_|refine a_ne rfl rfl (fun _=> ?_) fun _=> ?_)
  exact zk_ret1 (.inr rfl) rfl rfl ⟨⟨_,rfl⟩,hCw⟩
 obtain ⟨b5,o5,c5',hv5,_,hcell⟩:=hR3.cells (by omega)
 simp only [Value.slice.injEq] at hv5
 obtain ⟨rfl,_,rfl⟩:=hv5
 obtain ⟨g1,g2⟩:=hcell i hlt
 refine zz ?_
 refine zEq rfl rfl (fun hc=> ?_) (fun hc=> ?_)
 rotate_left
 ·refine zz ?_
  exact zk_loopW (i+1) ⟨by omega,rfl⟩ (by omega) ⟨rfl,rfl,rfl,get_int rfl (by omega),trivial⟩
 refine zz ?_
 refine zL1 rfl (cell_at g1 (by omega)) ?_
 repeat' (first|refine za ?_|refine a_cutW rfl rfl rfl fun _ _=> ?_|refine a_catW rfl rfl fun _ _=> ?_|refine a_idxW rfl rfl fun _ _=> ?_|refine a_addW rfl rfl fun _ _=> ?_|refine a_subW rfl rfl fun _ _=> ?_|refine a_min rfl rfl fun _ _ _ _=> ?_|refine a_max rfl rfl fun _ _ _ _=> ?_|refine a_shr rfl rfl fun _ _=> ?_|refine a_and rfl rfl fun _ _=> ?_|refine a_cmp rfl rfl rfl (fun _=> ?_) fun _=> ?_|refine a_eq rfl rfl (fun _=> ?_) fun _=> ?_|refine a_ne rfl rfl (fun _=> ?_) fun _=> ?_)
 rename_i t1 ht1
 refine zCp rfl (begins_calls s t1 (by omega) (by omega)) ?_
 cases beginsN s t1
 ·refine zz ?_
  refine zL1 rfl (cell_at g1 (by omega)) ?_
  repeat' (first|refine za ?_|refine a_cutW rfl rfl rfl fun _ _=> ?_|refine a_catW rfl rfl fun _ _=> ?_|refine a_idxW rfl rfl fun _ _=> ?_|refine a_addW rfl rfl fun _ _=> ?_|refine a_subW rfl rfl fun _ _=> ?_|refine a_min rfl rfl fun _ _ _ _=> ?_|refine a_max rfl rfl fun _ _ _ _=> ?_|refine a_shr rfl rfl fun _ _=> ?_|refine a_and rfl rfl fun _ _=> ?_|refine a_cmp rfl rfl rfl (fun _=> ?_) fun _=> ?_|refine a_eq rfl rfl (fun _=> ?_) fun _=> ?_|refine a_ne rfl rfl (fun _=> ?_) fun _=> ?_)
  rename_i t2 ht2
  refine zCp rfl (begins_calls s t2 (by omega) (by omega)) ?_
  cases beginsN s t2
  all_goals (repeat' (first|refine za ?_|refine a_cutW rfl rfl rfl fun _ _=> ?_|refine a_catW rfl rfl fun _ _=> ?_|refine a_idxW rfl rfl fun _ _=> ?_|refine a_addW rfl rfl fun _ _=> ?_|refine a_subW rfl rfl fun _ _=> ?_|refine a_min rfl rfl fun _ _ _ _=> ?_|refine a_max rfl rfl fun _ _ _ _=> ?_|refine a_shr rfl rfl fun _ _=> ?_|refine a_and rfl rfl fun _ _=> ?_|refine a_cmp rfl rfl rfl (fun _=> ?_) fun _=> ?_|refine a_eq rfl rfl (fun _=> ?_) fun _=> ?_|refine a_ne rfl rfl (fun _=> ?_) fun _=> ?_))
  all_goals first|exact zk_ret1 (.inr rfl) rfl rfl ⟨⟨_,rfl⟩,hCw⟩|exact zk_loopW (i+1) ⟨by omega,rfl⟩ (by omega) ⟨rfl,rfl,rfl,get_int rfl (by omega),trivial⟩
 ·refine zz ?_
  exact zk_ret1 (.inr rfl) rfl rfl ⟨⟨_,rfl⟩,hCw⟩
theorem good_calls {w:World} (l:List UInt8) (hl:l.length≤300) (k:Int):Calls Tryz.prog 98 [.string (bs l),.int .i64 k].toArray w fun e w'=>(∃q:Bool,e= .returned (.bool q))∧Chg w w' No:=by
 refine zCz 25 Tryz.func98 ?_
 refine zz ?_
 refine zCl rfl (parse_calls l hl) ?_
 rintro _ w1 ⟨⟨v,j,rfl,hV⟩,hC1⟩
 refine ⟨_,rfl,?_⟩
 have hV0:=hV
 obtain ⟨a,b,p,c,d,f,rfl,h1,h2,h3,h4,h5,h6⟩:=hV
 refine zP rfl (zP rfl (zP rfl ?_))
 refine zAl (fun w2 b2 hN2=> ?_)
 have hb2:Blk w2 b2 153 [.string ⟨#[]⟩,.string ⟨#[]⟩,.int .i64 0,.string ⟨#[]⟩,.string ⟨#[]⟩,.string ⟨#[]⟩]:=hN2.blk
 refine z_store (want_L rfl) rfl rfl rfl (by assumption) (by first|exact Nat.le_refl _|simp [Value.cells]) (by simp [Value.cells,Value.oneCell']) (fun w3 hU3=> ?_)
 have hb3:UB w3 b2 a b p c d f:=hU3.blk
 have hC3:Chg w w3 No:=(hC1.no hN2.chg).upd hU3 (by have:=hN2.at_;have:=hC1.size;omega)
 by_cases hj:j=0
 rotate_left
 ·refine zz ?_
  exact zk_ret1 (.inr rfl) rfl rfl ⟨⟨_,rfl⟩,hC3⟩
 subst hj
 refine zz ?_
 refine zCl rfl (utext_calls hV0 (by omega)) ?_
 rintro _ w4 ⟨⟨s,rfl,hs⟩,hC4⟩
 refine ⟨_,rfl,?_⟩
 have hb4:=hb3.no hC4
 repeat' (first|refine za ?_|refine a_cutW rfl rfl rfl fun _ _=> ?_|refine a_catW rfl rfl fun _ _=> ?_|refine a_idxW rfl rfl fun _ _=> ?_|refine a_addW rfl rfl fun _ _=> ?_|refine a_subW rfl rfl fun _ _=> ?_|refine a_min rfl rfl fun _ _ _ _=> ?_|refine a_max rfl rfl fun _ _ _ _=> ?_|refine a_shr rfl rfl fun _ _=> ?_|refine a_and rfl rfl fun _ _=> ?_|refine a_cmp rfl rfl rfl (fun _=> ?_) fun _=> ?_|refine a_eq rfl rfl (fun _=> ?_) fun _=> ?_|refine a_ne rfl rfl (fun _=> ?_) fun _=> ?_)
 ·refine zCl rfl (fit_calls hV0 (by omega) k) ?_
  rintro _ w5 ⟨⟨q,rfl⟩,hC5⟩
  refine ⟨_,rfl,?_⟩
  repeat' (first|refine za ?_|refine a_cutW rfl rfl rfl fun _ _=> ?_|refine a_catW rfl rfl fun _ _=> ?_|refine a_idxW rfl rfl fun _ _=> ?_|refine a_addW rfl rfl fun _ _=> ?_|refine a_subW rfl rfl fun _ _=> ?_|refine a_min rfl rfl fun _ _ _ _=> ?_|refine a_max rfl rfl fun _ _ _ _=> ?_|refine a_shr rfl rfl fun _ _=> ?_|refine a_and rfl rfl fun _ _=> ?_|refine a_cmp rfl rfl rfl (fun _=> ?_) fun _=> ?_|refine a_eq rfl rfl (fun _=> ?_) fun _=> ?_|refine a_ne rfl rfl (fun _=> ?_) fun _=> ?_)
  exact zk_ret1 (.inr rfl) rfl rfl ⟨⟨_,rfl⟩,(hC3.no hC4).no hC5⟩
 ·exact zk_ret1 (.inr rfl) rfl rfl ⟨⟨_,rfl⟩,hC3.no hC4⟩
open Go Go.Z Go.Proofs T
structure Cnd (B:Nat) (w:World) (v:Value) (ls:List At) (m:Nat):Prop where
 own:Own w 161 2 v ls.length (encA ls)
 ge: ∀k,v.ownBlock=some k→B≤k
 le: ∀x∈ls,0<x.1.length∧x.1.length≤m∧x.2.length≤m
theorem Cnd.nil {B m:Nat} {w:World}:Cnd B w (.slice none 0 0) [] m:=⟨Own.nil,(fun k hk=>by cases hk),(fun x hx=>by cases hx)⟩
theorem Cnd.no {B m:Nat} {w w':World} {v:Value} {ls:List At} (h:Cnd B w v ls m) (hc:Chg w w' No):Cnd B w' v ls m:=⟨h.own.no hc,h.ge,h.le⟩
theorem Cnd.form {B m:Nat} {w:World} {v:Value} {ls:List At} (h:Cnd B w v ls m): ∃A c,v= .slice A ls.length c∧ls.length≤c:=h.own.rd.form
theorem Cnd.cells {B m:Nat} {w:World} {v:Value} {ls:List At} (h:Cnd B w v ls m) (hp:0<ls.length): ∃b o c,v= .slice (some ⟨b,o,none⟩) ls.length c∧ls.length≤c∧ ∀j,j<ls.length→w.cell? ⟨b,o+j*2,none⟩=some (.string (bs (ls.getD j at0).1))∧w.cell? ⟨b,o+j*2+1,none⟩=some (.string (bs (ls.getD j at0).2))∧0<(ls.getD j at0).1.length∧(ls.getD j at0).1.length≤m∧(ls.getD j at0).2.length≤m:=by
 obtain ⟨b,o,c,hv,hc,hcc⟩:=RdS.some h.own.rd hp
 refine ⟨b,o,c,hv,hc,fun j hj=> ?_⟩
 obtain ⟨e1,e2⟩:=encA_get ls j hj
 have hm:ls.getD j at0∈ls:=by
  rw [List.getD_eq_getElem?_getD,List.getElem?_eq_getElem hj];exact List.getElem_mem hj
 exact ⟨hcc _ _ e1,by have:=hcc _ _ e2;rwa [←Nat.add_assoc] at this,h.le _ hm⟩
theorem set_calls {w:World} (l:List UInt8) (hl:l.length≤300):Calls Tryz.prog 137 [.string (bs l)].toArray w fun e w'=>(∃v ls,e= .returned v∧Cnd w.heap.size w' v ls 300∧ls.length≤300)∧Chg w w' No:=by
 have hbig:big=1000000000000:=rfl
 refine zCz 93 Tryz.func137 ?_
 refine zz ?_
 refine zc_loopW (ι:=Nat×Value×List At) (fun q u=> [(0,.string (bs l)),(3,q.2.1),(4,.int .i64 (q.1:Nat))]) (fun q u=>q.1≤l.length∧q.2.2.length≤q.1∧Cnd w.heap.size u q.2.1 q.2.2 300∧Chg w u No) (fun q u=>l.length - q.1) (0,.slice none 0 0,[]) ⟨Nat.zero_le _,Nat.le_refl _,Cnd.nil,Chg.refl _ _⟩ ⟨rfl,rfl,rfl,trivial⟩ ?_
 rintro ⟨a0,v,ls⟩ u ⟨ha0,hls,hR,hC⟩
 dsimp only at ha0 hls hR ⊢
 refine zB (zS (zB ?_))
 refine zc_midBX (ι:=Nat) (fun k u'=>a0≤k∧k≤l.length∧(k<l.length→blankN (Z.byteL l k)=false∧Z.byteL l k≠44)∧u'=u) (fun k=> [(0,.string (bs l)),(3,v),(4,.int .i64 (k:Nat))]) ?_ ?_
 ·refine zc_loopW (ι:=Nat) (fun i u'=> [(0,.string (bs l)),(3,v),(4,.int .i64 (i:Nat))]) (fun i u'=>a0≤i∧i≤l.length∧u'=u) (fun i u'=>l.length - i) a0 ⟨Nat.le_refl _,ha0,rfl⟩ ⟨rfl,rfl,rfl,trivial⟩ ?_
  rintro i u' ⟨hai,hi,hu'⟩
  obtain rfl:=hu'.symm
  by_cases hlt:i<l.length
  ·refine zz ?_
   refine zCp rfl (blankR_calls (Z.byteL l i)) ?_
   cases hb:blankN (Z.byteL l i)
   ·by_cases h44:Z.byteL l i=44
    ·refine zz ?_
     exact zk_loopW (i+1) ⟨by omega,by omega,rfl⟩ (by omega) ⟨rfl,rfl,get_int rfl (by omega),trivial⟩
    ·refine zz ?_
     exact zk_midX i ⟨hai,hi,fun _=>⟨hb,h44⟩,rfl⟩ ⟨rfl,rfl,rfl,trivial⟩
   ·refine zz ?_
    exact zk_loopW (i+1) ⟨by omega,by omega,rfl⟩ (by omega) ⟨rfl,rfl,get_int rfl (by omega),trivial⟩
  ·refine zz ?_
   exact zk_midX i ⟨hai,hi,fun h=>absurd h hlt,rfl⟩ ⟨rfl,rfl,rfl,trivial⟩
 rintro k u' ⟨hak,hk,hkb,hu'⟩
 obtain rfl:=hu'.symm
 by_cases hkl:k<l.length
 rotate_left
 ·refine zz ?_
  exact zk_ret1 (.inr rfl) rfl rfl ⟨⟨v,ls,rfl,hR,by omega⟩,hC⟩
 obtain ⟨hkb1,hkb2⟩:=hkb hkl
 refine zz ?_
 refine zc_midBX (ι:=Nat) (fun j u'=>k<j∧j≤l.length∧u'=u) (fun j=> [(0,.string (bs l)),(3,v),(4,.int .i64 (j:Nat)),(5,.int .i64 (k:Nat))]) ?_ ?_
 ·refine zc_loopW (ι:=Nat) (fun i u'=> [(0,.string (bs l)),(3,v),(4,.int .i64 (i:Nat)),(5,.int .i64 (k:Nat))]) (fun i u'=>k≤i∧i≤l.length∧u'=u) (fun i u'=>l.length - i) k ⟨Nat.le_refl _,hk,rfl⟩ ⟨rfl,rfl,rfl,rfl,trivial⟩ ?_
  rintro i u' ⟨hai,hi,hu'⟩
  obtain rfl:=hu'.symm
  by_cases hlt:i<l.length
  ·refine zz ?_
   refine zCp rfl (blankR_calls (Z.byteL l i)) ?_
   cases hb:blankN (Z.byteL l i)
   ·refine zz ?_
    exact zk_loopW (i+1) ⟨by omega,by omega,rfl⟩ (by omega) ⟨rfl,rfl,get_int rfl (by omega),rfl,trivial⟩
   ·have hik:k≠i:=fun h=>by rw [←h,hkb1] at hb;cases hb
    refine zz ?_
    exact zk_midX i ⟨by omega,hi,rfl⟩ ⟨rfl,rfl,rfl,rfl,trivial⟩
  ·refine zz ?_
   exact zk_midX i ⟨by omega,hi,rfl⟩ ⟨rfl,rfl,rfl,rfl,trivial⟩
 rintro j u' ⟨hkj,hj,hu'⟩
 obtain rfl:=hu'.symm
 refine zz ?_
 refine z_cutN k j (want_L rfl) (by decide) rfl rfl rfl rfl rfl (by omega) hj ?_
 obtain ⟨ur,hur⟩: ∃x,x=(l.drop k).take (j - k):=⟨_,rfl⟩
 have hul:ur.length=j - k:=by rw [hur,List.length_take,List.length_drop];omega
 have hu0:(ur.getD 0 0).toNat≠44:=by
  have:ur.getD 0 0=l.getD k 0:=by rw [hur,List.getD_eq_getElem?_getD,List.getElem?_take_of_lt (by omega),List.getElem?_drop,List.getD_eq_getElem?_getD];rfl
  rw [this];exact hkb2
 rw [←hur]
 refine z_buildE #[.string (bs ur),.string (bs [])] (want_L rfl) (by decide) rfl (by kernel_rfl) ?_
 refine zAl (fun u1 b6 hN1=> ?_)
 have hb1:Blk u1 b6 161 [.string ⟨#[]⟩,.string ⟨#[]⟩]:=hN1.blk
 refine z_store (want_L rfl) rfl rfl rfl (by assumption) (by first|exact Nat.le_refl _|simp [Value.cells]) (by simp [Value.cells,Value.oneCell']) (fun u2 hU2=> ?_)
 have hb2:Blk u2 b6 161 [.string (bs ur),.string (bs [])]:=hU2.blk
 have hge:w.heap.size≤b6:=by have:=hN1.at_;have:=hC.size;omega
 have hC2:Chg w u2 No:=(hC.no hN1.chg).upd hU2 hge
 have hnr:v.ownBlock≠some b6:=fun he=>by have:=hR.own.lt he;have:=hN1.at_;omega
 have hR2:Cnd w.heap.size u2 v ls 300:=⟨(hR.own.no hN1.chg).chg hU2.chg (fun k hk he=>hnr (by have he:k=b6:=he;rw [←he];exact hk)),hR.ge,hR.le⟩
 refine zN (zK ?_)
 refine zc_midX (ι:=Nat×List UInt8×List UInt8) (fun q u'=>Blk u' b6 161 [.string (bs q.2.1),.string (bs q.2.2)]∧0<q.2.1.length∧q.2.1.length≤300∧q.2.2.length≤300∧j≤q.1∧q.1≤l.length∧Cnd w.heap.size u' v ls 300∧Chg w u' No) (fun q=> [(0,.string (bs l)),(3,v),(4,.int .i64 (q.1:Nat)),(6,.pointer (some ⟨b6,0,none⟩))]) ?_ ?_
 ·have hst: ∀{u3 u4:World} {cs:List Value},Cnd w.heap.size u3 v ls 300→Upd u3 u4 b6 161 cs→Cnd w.heap.size u4 v ls 300:=fun h hU=>⟨h.own.chg hU.chg (fun k hk he=>hnr (by have he:k=b6:=he;rw [←he];exact hk)),h.ge,h.le⟩
  by_cases h44:Z.byteL l (j - 1)=44
  ·refine zz ?_
   refine zc_loopW (ι:=List UInt8) (fun q u'=> [(0,.string (bs l)),(3,v),(4,.int .i64 (j:Nat)),(6,.pointer (some ⟨b6,0,none⟩))]) (fun q u'=>Blk u' b6 161 [.string (bs q),.string (bs [])]∧0<q.length∧q.length≤300∧(q.getD 0 0).toNat≠44∧Cnd w.heap.size u' v ls 300∧Chg w u' No) (fun q u'=>q.length) ur ⟨hb2,by omega,by omega,hu0,hR2,hC2⟩ ⟨rfl,rfl,rfl,rfl,trivial⟩ ?_
   rintro q u3 ⟨hb3,hq0,hq3,hqc,hR3,hC3⟩
   by_cases hq44:Z.byteL q (q.length - 1)=44
   ·have hq1:q.length≠1:=fun h=>hqc (by rw [h] at hq44;exact hq44)
    refine zz ?_
    refine z_cutN 0 (q.length - 1) (want_L rfl) (by decide) rfl rfl rfl rfl (by omega) (by omega) (by omega) ?_
    obtain ⟨q2,hq2⟩: ∃x,x=(q.drop 0).take (q.length - 1 - 0):=⟨_,rfl⟩
    have hq2l:q2.length=q.length - 1:=by rw [hq2,List.length_take,List.length_drop];omega
    have hq2c:q2.getD 0 0=q.getD 0 0:=by rw [hq2,List.getD_eq_getElem?_getD,List.getElem?_take_of_lt (by omega),List.drop_zero,List.getD_eq_getElem?_getD]
    rw [←hq2]
    refine zfa rfl ?_
    refine z_store (want_L rfl) rfl rfl rfl (by assumption) (by first|exact Nat.le_refl _|simp [Value.cells]) (by simp [Value.cells,Value.oneCell']) (fun u4 hU4=> ?_)
    have hb4:Blk u4 b6 161 [.string (bs q2),.string (bs [])]:=hU4.blk
    refine zN (zM ?_)
    exact zk_loopW q2 ⟨hb4,by omega,by omega,by rw [hq2c];exact hqc,hst hR3 hU4,hC3.upd hU4 hge⟩ (by omega) ⟨rfl,rfl,rfl,rfl,trivial⟩
   ·refine zz ?_
    exact zk_midX (j,q,[]) ⟨hb3,hq0,hq3,by simp,Nat.le_refl _,hj,hR3,hC3⟩ ⟨rfl,rfl,rfl,rfl,trivial⟩
  ·refine zz ?_
   refine zc_midBX (ι:=Nat) (fun i u'=>j≤i∧i≤l.length∧u'=u2) (fun i=> [(0,.string (bs l)),(3,v),(4,.int .i64 (i:Nat)),(5,.int .i64 (j:Nat)),(6,.pointer (some ⟨b6,0,none⟩))]) ?_ ?_
   ·refine zc_loopW (ι:=Nat) (fun i u'=> [(0,.string (bs l)),(3,v),(4,.int .i64 (i:Nat)),(5,.int .i64 (j:Nat)),(6,.pointer (some ⟨b6,0,none⟩))]) (fun i u'=>j≤i∧i≤l.length∧u'=u2) (fun i u'=>l.length - i) j ⟨Nat.le_refl _,hj,rfl⟩ ⟨rfl,rfl,rfl,rfl,rfl,trivial⟩ ?_
    rintro i u' ⟨hji,hi,hu'⟩
    obtain rfl:=hu'.symm
    by_cases hlt:i<l.length
    ·repeat' (first|refine za ?_|refine a_cutW rfl rfl rfl fun _ _=> ?_|refine a_catW rfl rfl fun _ _=> ?_|refine a_idxW rfl rfl fun _ _=> ?_|refine a_addW rfl rfl fun _ _=> ?_|refine a_subW rfl rfl fun _ _=> ?_|refine a_min rfl rfl fun _ _ _ _=> ?_|refine a_max rfl rfl fun _ _ _ _=> ?_|refine a_shr rfl rfl fun _ _=> ?_|refine a_and rfl rfl fun _ _=> ?_|refine a_cmp rfl rfl rfl (fun _=> ?_) fun _=> ?_|refine a_eq rfl rfl (fun _=> ?_) fun _=> ?_|refine a_ne rfl rfl (fun _=> ?_) fun _=> ?_)
     all_goals first|exact zk_loopW (i+1) ⟨by omega,by omega,rfl⟩ (by omega) ⟨rfl,rfl,get_int rfl (by omega),rfl,rfl,trivial⟩|exact zk_midX i ⟨hji,hi,rfl⟩ ⟨rfl,rfl,rfl,rfl,rfl,trivial⟩
    ·refine zz ?_
     exact zk_midX i ⟨hji,hi,rfl⟩ ⟨rfl,rfl,rfl,rfl,rfl,trivial⟩
   rintro i u' ⟨hji,hi,hu'⟩
   obtain rfl:=hu'.symm
   repeat' (first|refine za ?_|refine a_cutW rfl rfl rfl fun _ _=> ?_|refine a_catW rfl rfl fun _ _=> ?_|refine a_idxW rfl rfl fun _ _=> ?_|refine a_addW rfl rfl fun _ _=> ?_|refine a_subW rfl rfl fun _ _=> ?_|refine a_min rfl rfl fun _ _ _ _=> ?_|refine a_max rfl rfl fun _ _ _ _=> ?_|refine a_shr rfl rfl fun _ _=> ?_|refine a_and rfl rfl fun _ _=> ?_|refine a_cmp rfl rfl rfl (fun _=> ?_) fun _=> ?_|refine a_eq rfl rfl (fun _=> ?_) fun _=> ?_|refine a_ne rfl rfl (fun _=> ?_) fun _=> ?_)
   rename_i s hs
   refine zCl rfl (trimB_calls s (by omega)) ?_
   rintro _ v2 ⟨⟨s2,rfl,hs2⟩,hv⟩
   obtain rfl:=hv.symm
   refine ⟨_,rfl,?_⟩
   refine zfa rfl ?_
   refine z_store (want_L rfl) rfl rfl rfl (by assumption) (by first|exact Nat.le_refl _|simp [Value.cells]) (by simp [Value.cells,Value.oneCell']) (fun u4 hU4=> ?_)
   have hb4:Blk u4 b6 161 [.string (bs ur),.string (bs s2)]:=hU4.blk
   refine zN ?_
   exact zk_midX (i,ur,s2) ⟨hb4,by dsimp only;omega,by dsimp only;omega,by dsimp only;omega,hji,hi,hst hR2 hU4,hC2.upd hU4 hge⟩ ⟨rfl,rfl,rfl,rfl,trivial⟩
 rintro ⟨i,q,s⟩ u3 ⟨hb3,hq0,hq3,hs3,hji,hi,hR3,hC3⟩
 dsimp only at hb3 hq0 hq3 hs3 hji hi hR3 ⊢
 refine zz ?_
 refine zB1 rfl (fun u4 b4 hN4=> ?_)
 have hr:RdS u4 161 2 (.slice (some ⟨b4,0,none⟩) 1 1) 1 (encA [(q,s)]):=RdS.new hN4 rfl (encA_one _)
 refine z_appendO (by rfl) (by decide) (want_L rfl) (by decide) rfl rfl (hR3.own.no hN4.chg) hr (by omega) (by omega) (fun v5 u5 hO5 hC5 hr5=> ?_)
 rw [←encA_app,show ls.length+1=(ls++ [(q,s)]).length by simp] at hO5
 have hv5:=rowge hR3.ge hr5 (by have:=hC3.size;have:=hN4.size;omega)
 refine zz ?_
 exact zk_loopW (i,v5,ls++ [(q,s)]) ⟨hi,by dsimp only;rw [List.length_append,List.length_singleton];omega,⟨hO5,hv5,fun y hy=>by
  rcases List.mem_append.1 hy with hy|hy
  ·exact hR3.le y hy
  ·rw [List.mem_singleton] at hy;subst hy;exact ⟨hq0,hq3,hs3⟩⟩,(hC3.no hN4.chg).trans hC5 (fun k hk hs=>by have:=hR3.ge k hs;omega)⟩ (by dsimp only;omega) ⟨rfl,rfl,rfl,trivial⟩
open Go Go.Z Go.Proofs T
theorem line13_calls {w:World} {v:Value} {B:Nat} {ls:List At} (h:Cnd B w v ls 300) (hl:ls.length≤300):Calls Tryz.prog 140 [v].toArray w fun e w'=>(∃s:List UInt8,e= .returned (.string (bs s))∧s.length≤1000000)∧w'=w:=by
 obtain ⟨A,c,rfl,hc⟩:=h.form
 refine zCz 37 Tryz.func140 ?_
 refine zz ?_
 refine zc_loopW (ι:=Nat×List UInt8) (fun q u=> [(0,.slice A ls.length c),(3,.string (bs q.2)),(4,.int .i64 (q.1:Nat))]) (fun q u=>q.1≤ls.length∧q.2.length≤603*q.1∧u=w) (fun q u=>ls.length - q.1) (0,[]) ⟨Nat.zero_le _,Nat.zero_le _,rfl⟩ ⟨rfl,rfl,rfl,trivial⟩ ?_
 rintro ⟨i,o⟩ u ⟨hi,ho,hu⟩
 obtain rfl:=hu.symm
 dsimp only at hi ho ⊢
 by_cases hlt:i<ls.length
 rotate_left
 ·refine zz ?_
  exact zk_ret1 (.inr rfl) rfl rfl ⟨⟨_,rfl,by omega⟩,rfl⟩
 obtain ⟨b,o',c',hv,_,hcell⟩:=h.cells (by omega)
 simp only [Value.slice.injEq] at hv
 obtain ⟨rfl,_,rfl⟩:=hv
 obtain ⟨g1,g2,_,g3,g4⟩:=hcell i hlt
 by_cases h0:0<i
 all_goals (repeat' (first|refine za ?_|refine a_cutW rfl rfl rfl fun _ _=> ?_|refine a_catW rfl rfl fun _ _=> ?_|refine a_idxW rfl rfl fun _ _=> ?_|refine a_addW rfl rfl fun _ _=> ?_|refine a_subW rfl rfl fun _ _=> ?_|refine a_min rfl rfl fun _ _ _ _=> ?_|refine a_max rfl rfl fun _ _ _ _=> ?_|refine a_shr rfl rfl fun _ _=> ?_|refine a_and rfl rfl fun _ _=> ?_|refine a_cmp rfl rfl rfl (fun _=> ?_) fun _=> ?_|refine a_eq rfl rfl (fun _=> ?_) fun _=> ?_|refine a_ne rfl rfl (fun _=> ?_) fun _=> ?_))
 all_goals try (refine zL1 rfl (cell_at g1 (by omega)) ?_;repeat' (first|refine za ?_|refine a_cutW rfl rfl rfl fun _ _=> ?_|refine a_catW rfl rfl fun _ _=> ?_|refine a_idxW rfl rfl fun _ _=> ?_|refine a_addW rfl rfl fun _ _=> ?_|refine a_subW rfl rfl fun _ _=> ?_|refine a_min rfl rfl fun _ _ _ _=> ?_|refine a_max rfl rfl fun _ _ _ _=> ?_|refine a_shr rfl rfl fun _ _=> ?_|refine a_and rfl rfl fun _ _=> ?_|refine a_cmp rfl rfl rfl (fun _=> ?_) fun _=> ?_|refine a_eq rfl rfl (fun _=> ?_) fun _=> ?_|refine a_ne rfl rfl (fun _=> ?_) fun _=> ?_))
 all_goals try (refine zL1 rfl (cell_at g2 (by omega)) ?_;repeat' (first|refine za ?_|refine a_cutW rfl rfl rfl fun _ _=> ?_|refine a_catW rfl rfl fun _ _=> ?_|refine a_idxW rfl rfl fun _ _=> ?_|refine a_addW rfl rfl fun _ _=> ?_|refine a_subW rfl rfl fun _ _=> ?_|refine a_min rfl rfl fun _ _ _ _=> ?_|refine a_max rfl rfl fun _ _ _ _=> ?_|refine a_shr rfl rfl fun _ _=> ?_|refine a_and rfl rfl fun _ _=> ?_|refine a_cmp rfl rfl rfl (fun _=> ?_) fun _=> ?_|refine a_eq rfl rfl (fun _=> ?_) fun _=> ?_|refine a_ne rfl rfl (fun _=> ?_) fun _=> ?_))
 all_goals try (refine zL1 rfl (cell_at g2 (by omega)) ?_;repeat' (first|refine za ?_|refine a_cutW rfl rfl rfl fun _ _=> ?_|refine a_catW rfl rfl fun _ _=> ?_|refine a_idxW rfl rfl fun _ _=> ?_|refine a_addW rfl rfl fun _ _=> ?_|refine a_subW rfl rfl fun _ _=> ?_|refine a_min rfl rfl fun _ _ _ _=> ?_|refine a_max rfl rfl fun _ _ _ _=> ?_|refine a_shr rfl rfl fun _ _=> ?_|refine a_and rfl rfl fun _ _=> ?_|refine a_cmp rfl rfl rfl (fun _=> ?_) fun _=> ?_|refine a_eq rfl rfl (fun _=> ?_) fun _=> ?_|refine a_ne rfl rfl (fun _=> ?_) fun _=> ?_))
 all_goals first
  |(rename_i s hs;exact zk_loopW (i+1,s) ⟨by dsimp only;omega,by dsimp only;omega,rfl⟩ (by dsimp only;omega) ⟨rfl,rfl,get_int rfl (by dsimp only;omega),trivial⟩)
  |(rename_i s hs _;exact zk_loopW (i+1,s) ⟨by dsimp only;omega,by dsimp only;omega,rfl⟩ (by dsimp only;omega) ⟨rfl,rfl,get_int rfl (by dsimp only;omega),trivial⟩)
theorem goodSet_calls {w:World} (l:List UInt8) (hl:l.length≤300):Calls Tryz.prog 99 [.string (bs l)].toArray w fun e w'=>(∃q:Bool,e= .returned (.bool q))∧Chg w w' No:=by
 have hbig:big=1000000000000:=rfl
 refine zCz 70 Tryz.func99 ?_
 refine zz ?_
 refine zCl rfl (set_calls l hl) ?_
 rintro _ w1 ⟨⟨v,ls,rfl,hR,hls⟩,hC1⟩
 refine ⟨_,rfl,?_⟩
 obtain ⟨A,c,rfl,hc⟩:=hR.form
 refine zz ?_
 refine zc_loopW (ι:=Nat) (fun i u=> [(0,.string (bs l)),(3,.slice A ls.length c),(4,.int .i64 (i:Nat))]) (fun i u=>i≤ls.length∧Chg w1 u No) (fun i u=>ls.length - i) 0 ⟨Nat.zero_le _,Chg.refl _ _⟩ ⟨rfl,rfl,rfl,trivial⟩ ?_
 rintro i u ⟨hi,hC⟩
 have hRu:=hR.no hC
 have hCu:Chg w u No:=hC1.no hC
 by_cases hlt:i<ls.length
 rotate_left
 ·repeat' (first|refine za ?_|refine a_cutW rfl rfl rfl fun _ _=> ?_|refine a_catW rfl rfl fun _ _=> ?_|refine a_idxW rfl rfl fun _ _=> ?_|refine a_addW rfl rfl fun _ _=> ?_|refine a_subW rfl rfl fun _ _=> ?_|refine a_min rfl rfl fun _ _ _ _=> ?_|refine a_max rfl rfl fun _ _ _ _=> ?_|refine a_shr rfl rfl fun _ _=> ?_|refine a_and rfl rfl fun _ _=> ?_|refine a_cmp rfl rfl rfl (fun _=> ?_) fun _=> ?_|refine a_eq rfl rfl (fun _=> ?_) fun _=> ?_|refine a_ne rfl rfl (fun _=> ?_) fun _=> ?_)
  ·refine zCl rfl (line13_calls hRu hls) ?_
   rintro _ v2 ⟨⟨s,rfl,hs⟩,hv⟩
   obtain rfl:=hv.symm
   refine ⟨_,rfl,?_⟩
   repeat' (first|refine za ?_|refine a_cutW rfl rfl rfl fun _ _=> ?_|refine a_catW rfl rfl fun _ _=> ?_|refine a_idxW rfl rfl fun _ _=> ?_|refine a_addW rfl rfl fun _ _=> ?_|refine a_subW rfl rfl fun _ _=> ?_|refine a_min rfl rfl fun _ _ _ _=> ?_|refine a_max rfl rfl fun _ _ _ _=> ?_|refine a_shr rfl rfl fun _ _=> ?_|refine a_and rfl rfl fun _ _=> ?_|refine a_cmp rfl rfl rfl (fun _=> ?_) fun _=> ?_|refine a_eq rfl rfl (fun _=> ?_) fun _=> ?_|refine a_ne rfl rfl (fun _=> ?_) fun _=> ?_)
   all_goals exact zk_ret1 (.inr rfl) rfl rfl ⟨⟨_,rfl⟩,hCu⟩
  ·exact zk_ret1 (.inr rfl) rfl rfl ⟨⟨_,rfl⟩,hCu⟩
 obtain ⟨b,o,c',hv,_,hcell⟩:=hRu.cells (by omega)
 simp only [Value.slice.injEq] at hv
 obtain ⟨rfl,_,rfl⟩:=hv
 obtain ⟨g1,g2,g0,g3,g4⟩:=hcell i hlt
 obtain ⟨x,hx⟩: ∃x,x=ls.getD i at0:=⟨_,rfl⟩
 rw [←hx] at g1 g2 g0 g3 g4
 refine zz ?_
 refine zCl rfl (parse_calls x.1 g3) ?_
 rintro _ u1 ⟨⟨V,k,rfl,hV⟩,hD1⟩
 refine ⟨_,rfl,?_⟩
 obtain ⟨a,b',p,c2,d,f,rfl,h1,h2,h3,h4,h5,h6⟩:=hV
 refine zP rfl (zP rfl (zP rfl ?_))
 refine zAl (fun u2 b5 hN2=> ?_)
 have hb2:Blk u2 b5 153 [.string ⟨#[]⟩,.string ⟨#[]⟩,.int .i64 0,.string ⟨#[]⟩,.string ⟨#[]⟩,.string ⟨#[]⟩]:=hN2.blk
 refine z_store (want_L rfl) rfl rfl rfl (by assumption) (by first|exact Nat.le_refl _|simp [Value.cells]) (by simp [Value.cells,Value.oneCell']) (fun u3 hU3=> ?_)
 have hb3:UB u3 b5 a b' p c2 d f:=hU3.blk
 have hD3:Chg u u3 No:=(hD1.no hN2.chg).upd hU3 (by have:=hN2.at_;have:=hD1.size;omega)
 have k1:=cell_keep hD3 g1
 have k2:=cell_keep hD3 g2
 refine zz ?_
 refine zc_draw [] (fun w'=>Chg u3 w' No) (.take 0 (.take 1 (.take 2 (.take 3 (.take 4 (.all1 5 (.take 6 (.take 7 (.take 8 (.take 9 (.all1 10 (.take 11 (.take 12 (.take 13 (.take 14 (.take 15 (.take 16 (.take 17 (.take 18 (.take 19 (.take 20 (.take 21 (.take 22 (.take 23 (.take 24 (.take 25 (.take 26 (.take 27 (.take 28 (.take 29 (.take 30 (.take 31 (.take 32 (.take 33 (.take 34 (.all1 35 (.take 36 (.take 37 (.fin))))))))))))))))))))))))))))))))))))))) (by rfl) (by kernel_rfl) (by kernel_rfl) (fun u4 hD4 _=>⟨?_,?_⟩)
 ·exact hD4
 refine zz ?_
 refine zRd rfl rfl (fun _ hS=>r_load1 rfl (cell_at (cell_keep hS k1) (by omega))) ?_
 have hret: ∀{u9:World},Chg u3 u9 No→Chg w u9 No:=fun h=>(hCu.no hD3).no h
 refine zs_call rfl (want_L rfl) rfl (by decide) rfl (good_calls x.1 g3 2) ?_
 rintro _ u5 ⟨⟨q,rfl⟩,hC5⟩
 have hD5:=hD4.no hC5
 refine ⟨_,rfl,hD5,?_⟩
 cases q
 ·refine zz ?_
  exact zk_ret1 (.inr rfl) rfl rfl ⟨⟨_,rfl⟩,hret hD5⟩
 refine zz ?_
 refine zRd rfl rfl (fun _ hS=>r_loadB rfl (Blk.no hb3 hS) (by rfl)) ?_
 refine zs_call rfl (want_L rfl) rfl (by decide) rfl (web_calls a) ?_
 rintro _ u6 ⟨⟨q,rfl⟩,hu6⟩
 obtain rfl:=hu6.symm
 refine ⟨_,rfl,hD5,?_⟩
 cases q
 ·refine zz ?_
  exact zk_ret1 (.inr rfl) rfl rfl ⟨⟨_,rfl⟩,hret hD5⟩
 refine zz ?_
 refine zRd rfl rfl (fun _ hS=>r_load1 rfl (cell_at (cell_keep hS k1) (by omega))) ?_
 refine zz ?_
 refine zRd rfl rfl (fun _ hS=>r_load1 rfl (cell_at (cell_keep hS k1) (by omega))) ?_
 refine zz ?_
 refine zRd rfl rfl (fun _ _=>r_idxL rfl rfl (by omega) (by omega)) ?_
 refine zs_cmp rfl (want_L rfl) (by decide) rfl rfl rfl (fun hc=> ?_) (fun hc=> ?_)
 ·refine zz ?_
  exact zk_ret1 (.inr rfl) rfl rfl ⟨⟨_,rfl⟩,hret hD5⟩
 refine zz ?_
 refine zRd rfl rfl (fun _ hS=>r_load1 rfl (cell_at (cell_keep hS k2) (by omega))) ?_
 refine zs_call rfl (want_L rfl) rfl (by decide) rfl (sized_calls x.2 (by omega)) ?_
 rintro _ u7 ⟨⟨q,rfl⟩,hu7⟩
 obtain rfl:=hu7.symm
 refine ⟨_,rfl,hD5,?_⟩
 cases q
 ·refine zz ?_
  exact zk_ret1 (.inr rfl) rfl rfl ⟨⟨_,rfl⟩,hret hD5⟩
 refine zz ?_
 exact zk_loopW (i+1) ⟨by omega,(hC.no hD3).no hD5⟩ (by omega) ⟨rfl,rfl,get_int rfl (by omega),trivial⟩
end Go.Proofs.YtbcmiijollpgeaaGreat.V
namespace Go.Proofs.YtbcmiijollpgeaaGreat.U
open Go Go.Z Go.Proofs
def leadN (c:Nat):Nat×Nat×Nat:=
 if c<128 then (1,0,0) else if 194≤c∧c≤223 then (2,128,191) else if c=224 then (3,160,191) else if c=237 then (3,128,159) else if 225≤c∧c≤239 then (3,128,191)
 else if c=240 then (4,144,191) else if 241≤c∧c≤243 then (4,128,191) else if c=244 then (4,128,143) else (0,0,0)
def leadV (c:Nat):Value:= .tuple #[.int .i64 (leadN c).1,.int .u8 (leadN c).2.1,.int .u8 (leadN c).2.2]
theorem lead_cases (c:Nat):(c<128∧leadN c=(1,0,0))∨(194≤c∧c≤223∧leadN c=(2,128,191))∨(c=224∧leadN c=(3,160,191))∨(c=237∧leadN c=(3,128,159))∨(225≤c∧c≤239∧c≠237∧leadN c=(3,128,191))∨
  (c=240∧leadN c=(4,144,191))∨(241≤c∧c≤243∧leadN c=(4,128,191))∨(c=244∧leadN c=(4,128,143))∨((128≤c∧c<194∨244<c)∧leadN c=(0,0,0)):=by
 unfold leadN
 by_cases h1:c<128
 ·left;exact ⟨h1,by rw [if_pos h1]⟩
 by_cases h2:194≤c∧c≤223
 ·right;left;exact ⟨h2.1,h2.2,by rw [if_neg h1,if_pos h2]⟩
 by_cases h3:c=224
 ·right;right;left;subst h3;exact ⟨rfl,rfl⟩
 by_cases h4:c=237
 ·right;right;right;left;subst h4;exact ⟨rfl,rfl⟩
 by_cases h5:225≤c∧c≤239
 ·right;right;right;right;left;exact ⟨h5.1,h5.2,h4,by rw [if_neg h1,if_neg h2,if_neg h3,if_neg h4,if_pos h5]⟩
 by_cases h6:c=240
 ·right;right;right;right;right;left;subst h6;exact ⟨rfl,rfl⟩
 by_cases h7:241≤c∧c≤243
 ·right;right;right;right;right;right;left;exact ⟨h7.1,h7.2,by rw [if_neg h1,if_neg h2,if_neg h3,if_neg h4,if_neg h5,if_neg h6,if_pos h7]⟩
 by_cases h8:c=244
 ·right;right;right;right;right;right;right;left;subst h8;exact ⟨rfl,rfl⟩
 ·right;right;right;right;right;right;right;right;exact ⟨by omega,by rw [if_neg h1,if_neg h2,if_neg h3,if_neg h4,if_neg h5,if_neg h6,if_neg h7,if_neg h8]⟩
theorem leadN_le (c:Nat):(leadN c).1≤4∧(leadN c).2.1≤255∧(leadN c).2.2≤255:=by
 rcases lead_cases c with ⟨_,h⟩|⟨_,_,h⟩|⟨_,h⟩|⟨_,h⟩|⟨_,_,_,h⟩|⟨_,h⟩|⟨_,_,h⟩|⟨_,h⟩|⟨_,h⟩<;>rw [h]<;>decide
theorem leadR_calls {w:World} (c:Nat):Calls Tryz.prog 63 [.int .u8 c].toArray w fun e w'=>e= .returned (leadV c)∧w'=w:=by
 unfold leadV
 refine zCz 41 Tryz.func63 ?_
 refine zz ?_
 rcases lead_cases c with ⟨h1,hv⟩|⟨h1,h2,hv⟩|⟨h1,hv⟩|⟨h1,hv⟩|⟨h1,h2,h3,hv⟩|⟨h1,hv⟩|⟨h1,h2,hv⟩|⟨h1,hv⟩|⟨h1,hv⟩<;>rw [hv]
 ·refine zz ?_
  exact zk_ret3 (.inr rfl) rfl rfl rfl rfl ⟨rfl,rfl⟩
 ·refine zz ?_
  exact zk_ret3 (.inr rfl) rfl rfl rfl rfl ⟨rfl,rfl⟩
 ·refine zz ?_
  exact zk_ret3 (.inr rfl) rfl rfl rfl rfl ⟨rfl,rfl⟩
 ·refine zz ?_
  exact zk_ret3 (.inr rfl) rfl rfl rfl rfl ⟨rfl,rfl⟩
 ·refine zz ?_
  exact zk_ret3 (.inr rfl) rfl rfl rfl rfl ⟨rfl,rfl⟩
 ·refine zz ?_
  exact zk_ret3 (.inr rfl) rfl rfl rfl rfl ⟨rfl,rfl⟩
 ·refine zz ?_
  exact zk_ret3 (.inr rfl) rfl rfl rfl rfl ⟨rfl,rfl⟩
 ·refine zz ?_
  exact zk_ret3 (.inr rfl) rfl rfl rfl rfl ⟨rfl,rfl⟩
 ·rcases h1 with ⟨h1,h2⟩|h1
  ·refine zz ?_
   exact zk_ret3 (.inr rfl) rfl rfl rfl rfl ⟨rfl,rfl⟩
  ·refine zz ?_
   exact zk_ret3 (.inr rfl) rfl rfl rfl rfl ⟨rfl,rfl⟩
theorem leadR_calls' {w:World} (c n lo hi:Nat) (hv:leadN c=(n,lo,hi)):Calls Tryz.prog 63 [.int .u8 c].toArray w fun e w'=>e= .returned (.tuple #[.int .i64 n,.int .u8 lo,.int .u8 hi])∧w'=w:=by
 have:=leadR_calls (w:=w) c
 unfold leadV at this
 rwa [hv] at this
theorem byte_drop (l:List UInt8) (i k:Nat):byteL (l.drop i) k=byteL l (i+k):=by
 simp [byteL,List.getD_eq_getElem?_getD,List.getElem?_drop]
def contS (s:List UInt8) (n:Nat):Nat→Nat→Nat→Nat→Nat
 |0,k,_,_=>k
 |f+1,k,lo,hi=>if k<n∧k<s.length∧lo≤byteL s k∧byteL s k≤hi then contS s n f (k+1) 128 191 else k
def sizeS (s:List UInt8):Nat:=if (leadN (byteL s 0)).1=0 then 0 else contS s (leadN (byteL s 0)).1 ((leadN (byteL s 0)).1 - 1) 1 (leadN (byteL s 0)).2.1 (leadN (byteL s 0)).2.2
def okS (s:List UInt8):Bool:=decide (0<(leadN (byteL s 0)).1∧sizeS s=(leadN (byteL s 0)).1)
theorem contS_le (s:List UInt8) (n:Nat): ∀f k lo hi,k≤s.length→contS s n f k lo hi≤s.length∧contS s n f k lo hi≤k+f
 |0,k,_,_,h=>⟨h,Nat.le_refl _⟩
 |f+1,k,lo,hi,h=>by
  unfold contS
  split
  ·rename_i hc
   have:=contS_le s n f (k+1) 128 191 (by omega)
   omega
  ·omega
theorem sizeS_le (s:List UInt8) (h:s≠ []):sizeS s≤s.length∧sizeS s≤4:=by
 have hl:1≤s.length:=by cases s<;>simp_all
 have:=leadN_le (byteL s 0)
 unfold sizeS
 split
 ·omega
 ·have:=contS_le s (leadN (byteL s 0)).1 ((leadN (byteL s 0)).1 - 1) 1 (leadN (byteL s 0)).2.1 (leadN (byteL s 0)).2.2 hl
  omega
theorem okS_size {s:List UInt8} (h:okS s=true):1≤sizeS s:=by
 unfold okS at h;simp at h;omega
theorem part_calls {w:World} {l:List UInt8} (hl:l.length≤2000000) (i:Nat) (hi:i<l.length):
  Calls Tryz.prog 36 [.string (bs l),.int .i64 i].toArray w fun e w'=>e= .returned (.tuple #[.int .i64 (sizeS (l.drop i)),.bool (okS (l.drop i))])∧w'=w:=by
 have hS:(l.drop i).length=l.length - i:=by simp
 obtain ⟨n,lo,hi',hv⟩: ∃n lo hi,leadN (byteL l i)=(n,lo,hi):=⟨_,_,_,rfl⟩
 have hle:=leadN_le (byteL l i)
 have hv0:leadN (byteL (l.drop i) 0)=(n,lo,hi'):=by rw [byte_drop];exact hv
 rw [hv] at hle
 obtain ⟨hn4,hlo,hhi⟩:=hle
 dsimp only at hn4 hlo hhi
 refine zCz 58 Tryz.func36 ?_
 refine zz ?_
 refine zCl rfl (leadR_calls' (byteL l i) n lo hi' hv) ?_
 rintro _ w1 ⟨rfl,rfl⟩
 refine ⟨_,rfl,?_⟩
 by_cases h2:n<2
 ·have e1:sizeS (l.drop i)=n:=by
   unfold sizeS;rw [hv0];dsimp only
   split
   ·omega
   ·rw [show n - 1=0 by omega];show 1=n;omega
  have e2:okS (l.drop i)=decide (n=1):=by
   unfold okS;rw [e1,hv0];dsimp only
   by_cases hq:n=1
   ·subst hq;rfl
   ·rw [decide_eq_false hq,decide_eq_false];omega
  rw [e1,e2]
  refine zz ?_
  refine z_cmpB (r:=decide (n=1)) (want_L rfl) (by decide) rfl rfl rfl (by simp;omega) ?_
  refine zz ?_
  exact zk_ret2 (.inr rfl) rfl rfl rfl ⟨rfl,rfl⟩
 ·have e1:sizeS (l.drop i)=contS (l.drop i) n (n - 1) 1 lo hi':=by unfold sizeS;rw [hv0];rw [if_neg (by dsimp only;omega)]
  refine zz ?_
  refine zc_midB (fun u=>u=w1) [(6,.int .i64 n),(9,.int .i64 (sizeS (l.drop i)))] ?_ ?_
  ·refine zc_loop (ι:=Nat×Nat×Nat) (fun q=> [(0,.string (bs l)),(1,.int .i64 i),(6,.int .i64 n),(7,.int .u8 q.2.1),(8,.int .u8 q.2.2),(9,.int .i64 q.1)]) (fun _=>w1)
    (fun q=>1≤q.1∧q.1≤n∧sizeS (l.drop i)=contS (l.drop i) n (n - q.1) q.1 q.2.1 q.2.2) (fun q=>n - q.1) (1,lo,hi') ⟨Nat.le_refl _,by omega,e1⟩ ?_ ?_ ?_
   ·rfl
   ·exact ⟨rfl,rfl,rfl,rfl,rfl,rfl,trivial⟩
   rintro ⟨k,lo,hi''⟩ ⟨hk1,hkn,hk⟩
   dsimp only at hk1 hkn hk ⊢
   by_cases hlt:k<n
   ·have hun:contS (l.drop i) n (n - k) k lo hi''=if k<n∧k<(l.drop i).length∧lo≤byteL (l.drop i) k∧byteL (l.drop i) k≤hi'' then contS (l.drop i) n (n - (k+1)) (k+1) 128 191 else k:=by
     rw [show n - k=(n - (k+1))+1 by omega,contS]
    rw [hun,hS,byte_drop] at hk
    have hbad: ¬(k<n∧k<l.length - i∧lo≤byteL l (i+k)∧byteL l (i+k)≤hi'')→sizeS (l.drop i)=k:=fun hq=>by
     rw [if_neg hq] at hk;exact hk
    by_cases hin:i+k<l.length
    ·have hbyte:(l.getD (i+k) 0).toNat=byteL l (i+k):=rfl
     by_cases hlo2:lo≤byteL l (i+k)
     ·by_cases hhi2:byteL l (i+k)≤hi''
      ·refine zz ?_
       refine zk_loop (k+1,128,191) ⟨by omega,by omega,?_⟩ (by simp;omega) rfl ⟨rfl,rfl,rfl,rfl,rfl,get_int rfl (by simp),trivial⟩
       rw [hk,if_pos ⟨hlt,by omega,hlo2,hhi2⟩]
      ·have g1:=hbad (fun h=>hhi2 h.2.2.2)
       refine zz ?_
       exact zk_mid rfl ⟨rfl,get_int rfl (by omega),trivial⟩
     ·have g1:=hbad (fun h=>hlo2 h.2.2.1)
      refine zz ?_
      exact zk_mid rfl ⟨rfl,get_int rfl (by omega),trivial⟩
    ·have g1:=hbad (fun h=>hin (by omega))
     refine zz ?_
     exact zk_mid rfl ⟨rfl,get_int rfl (by omega),trivial⟩
   ·obtain rfl:k=n:=by omega
    rw [Nat.sub_self] at hk
    have hk:sizeS (l.drop i)=k:=hk
    refine zz ?_
    exact zk_mid rfl ⟨rfl,get_int rfl (by omega),trivial⟩
  rintro u rfl
  refine zz ?_
  refine z_cmpB (r:=okS (l.drop i)) (want_L rfl) (by decide) rfl rfl rfl (by unfold okS;rw [hv0];simp;omega) ?_
  refine zz ?_
  exact zk_ret2 (.inr rfl) rfl rfl rfl ⟨rfl,rfl⟩
def lost:List UInt8:= [239,191,189]
def pieceS (s:List UInt8):List UInt8:=if okS s then s.take (sizeS s) else lost
def decS:Nat→List UInt8→List UInt8
 |0,_=> []
 |f+1,s=>if s= [] then [] else pieceS s++decS f (s.drop (max (sizeS s) 1))
def dec (s:List UInt8):List UInt8:=decS s.length s
theorem decS_nil: ∀f,decS f []= []
 |0=>rfl
 |f+1=>by simp [decS]
theorem decS_fuel: ∀(f g:Nat) (s:List UInt8),s.length≤f→s.length≤g→decS f s=decS g s
 |0,g,s,hf,hg=>by
  have:s= []:=List.eq_nil_of_length_eq_zero (by omega)
  subst this;simp [decS_nil]
 |f+1,0,s,hf,hg=>by
  have:s= []:=List.eq_nil_of_length_eq_zero (by omega)
  subst this;simp [decS_nil]
 |f+1,g+1,s,hf,hg=>by
  unfold decS
  split
  ·rfl
  ·rw [decS_fuel f g _ (by rw [List.length_drop];omega) (by rw [List.length_drop];omega)]
theorem dec_cons (s:List UInt8) (h:s≠ []):dec s=pieceS s++dec (s.drop (max (sizeS s) 1)):=by
 have hl:1≤s.length:=by cases s<;>simp_all
 unfold dec
 conv=>lhs;rw [show s.length=(s.length - 1)+1 by omega];unfold decS
 rw [if_neg h,decS_fuel (s.length - 1) _ _ (by rw [List.length_drop];omega) (Nat.le_refl _)]
theorem drop_ne {l:List UInt8} {i:Nat} (h:i<l.length):l.drop i≠ []:=by
 intro he;have:=congrArg List.length he;rw [List.length_drop] at this;simp at this;omega
def linesN:List UInt8→List UInt8
 | []=> []
 |c::r=>if c=13 then (if r.head? =some 10 then linesN r else 10::linesN r) else c::linesN r
theorem drop_cons0 (l:List UInt8) (i:Nat) (h:i<l.length):l.drop i=l.getD i 0::l.drop (i+1):=by
 rw [List.drop_eq_getElem_cons h,List.getD_eq_getElem?_getD,List.getElem?_eq_getElem h];rfl
def lineP (l:List UInt8) (i:Nat):List UInt8:=if byteL l i≠13 then [l.getD i 0] else if i+1<l.length∧byteL l (i+1)=10 then [] else [10]
theorem byte_eq (l:List UInt8) (i:Nat) (k:Nat) (hk:k<256):byteL l i=k↔l.getD i 0=UInt8.ofNat k:=by
 unfold byteL
 constructor
 ·intro h;rw [←h];simp
 ·intro h;rw [h];simp;omega
theorem linesN_cons (c:UInt8) (r:List UInt8):linesN (c::r)=if c=13 then (if r.head? =some 10 then linesN r else 10::linesN r) else c::linesN r:=rfl
theorem lines_cons (l:List UInt8) (i:Nat) (h:i<l.length):linesN (l.drop i)=lineP l i++linesN (l.drop (i+1)):=by
 rw [drop_cons0 l i h,linesN_cons]
 unfold lineP
 have e13:byteL l i=13↔l.getD i 0=13:=byte_eq l i 13 (by decide)
 by_cases h1:byteL l i=13
 ·rw [if_pos (e13.1 h1),if_neg (show¬(byteL l i≠13) from fun h=>h h1)]
  by_cases h2:i+1<l.length
  ·have e10:byteL l (i+1)=10↔l.getD (i+1) 0=10:=byte_eq l (i+1) 10 (by decide)
   have hh:(l.drop (i+1)).head? =some (l.getD (i+1) 0):=by rw [drop_cons0 l (i+1) h2];rfl
   rw [hh]
   by_cases h3:byteL l (i+1)=10
   ·rw [if_pos (by rw [e10.1 h3]),if_pos ⟨h2,h3⟩];rfl
   ·rw [if_neg (fun h=>h3 (e10.2 (Option.some.inj h))),if_neg (fun h=>h3 h.2)];rfl
  ·have hh:(l.drop (i+1)).head? =none:=by rw [List.drop_eq_nil_of_le (by omega)];rfl
   rw [hh,if_neg (by simp),if_neg (fun h=>h2 h.1)];rfl
 ·rw [if_neg (fun h=>h1 (e13.2 h)),if_pos h1];rfl
theorem linesR_calls {w:World} {l:List UInt8} (hl:l.length≤2000000):Calls Tryz.prog 28 [.string (bs l)].toArray w fun e w'=>e= .returned (.string (bs (linesN l)))∧w'=w:=by
 refine zCz 39 Tryz.func28 ?_
 refine zz ?_
 refine zc_loop (ι:=Nat×List UInt8) (fun q=> [(0,.string (bs l)),(3,.string (bs q.2)),(4,.int .i64 q.1)]) (fun _=>w)
  (fun q=>q.1≤l.length∧q.2.length≤q.1∧q.2++linesN (l.drop q.1)=linesN l) (fun q=>l.length - q.1) (0,[]) ⟨Nat.zero_le _,Nat.le_refl _,rfl⟩ ?_ ?_ ?_
 ·rfl
 ·exact ⟨rfl,rfl,rfl,trivial⟩
 rintro ⟨i,out⟩ ⟨hi,hol,hd⟩
 dsimp only at hi hol hd ⊢
 by_cases hlt:i<l.length
 ·have hlc:=lines_cons l i hlt
  have hbi:(l.getD i 0).toNat=byteL l i:=rfl
  unfold lineP at hlc
  by_cases h13:byteL l i=13
  ·rw [if_neg (by simp [h13])] at hlc
   by_cases h2:i+1<l.length
   ·have hbi2:(l.getD (i+1) 0).toNat=byteL l (i+1):=rfl
    by_cases h10:byteL l (i+1)=10
    ·rw [if_pos ⟨h2,h10⟩] at hlc
     refine zz ?_
     refine zk_loop (i+1,out) ⟨by omega,by dsimp only;omega,?_⟩ (by simp;omega) rfl ⟨rfl,rfl,get_int rfl (by simp),trivial⟩
     rw [←hd,hlc];rfl
    ·rw [if_neg (fun h=>h10 h.2)] at hlc
     refine zz ?_
     refine zk_loop (i+1,out++ [10]) ⟨by omega,by simp;omega,?_⟩ (by simp;omega) rfl ⟨rfl,rfl,get_int rfl (by simp),trivial⟩
     rw [List.append_assoc,←hd,hlc]
   ·rw [if_neg (fun h=>h2 h.1)] at hlc
    refine zz ?_
    refine zk_loop (i+1,out++ [10]) ⟨by omega,by simp;omega,?_⟩ (by simp;omega) rfl ⟨rfl,rfl,get_int rfl (by simp),trivial⟩
    rw [List.append_assoc,←hd,hlc]
  ·rw [if_pos h13] at hlc
   refine zz ?_
   refine z_cutN i (i+1) (want_L rfl) (by decide) rfl rfl rfl rfl (by omega) (by omega) (by omega) ?_
   rw [show (l.drop i).take (i+1 - i)= [l.getD i 0] by rw [drop_cons0 l i hlt,show i+1 - i=1 by omega];rfl]
   refine z_catL (r:= [l.getD i 0]) (want_L rfl) (by decide) rfl rfl (by simp;omega) ?_
   refine zz ?_
   refine zk_loop (i+1,out++ [l.getD i 0]) ⟨by omega,by simp;omega,?_⟩ (by simp;omega) rfl ⟨rfl,rfl,get_int rfl (by simp),trivial⟩
   rw [List.append_assoc,←hd,hlc]
 ·obtain rfl:i=l.length:=by omega
  rw [List.drop_length] at hd
  have hd:out=linesN l:=by rw [←hd];simp [linesN]
  subst hd
  refine zz ?_
  exact zk_ret1 (.inr rfl) rfl rfl ⟨rfl,rfl⟩
def wholeF:Nat→List UInt8→Bool
 |0,_=>true
 |f+1,s=>if s= [] then true else okS s && wholeF f (s.drop (sizeS s))
def whole (s:List UInt8):Bool:=wholeF s.length s
theorem wholeF_nil: ∀f,wholeF f []=true
 |0=>rfl
 |f+1=>by simp [wholeF]
theorem wholeF_fuel: ∀(f g:Nat) (s:List UInt8),s.length≤f→s.length≤g→wholeF f s=wholeF g s
 |0,g,s,hf,hg=>by
  have:s= []:=List.eq_nil_of_length_eq_zero (by omega)
  subst this;simp [wholeF_nil]
 |f+1,0,s,hf,hg=>by
  have:s= []:=List.eq_nil_of_length_eq_zero (by omega)
  subst this;simp [wholeF_nil]
 |f+1,g+1,s,hf,hg=>by
  unfold wholeF
  split
  ·rfl
  ·cases hok:okS s
   ·rfl
   ·have:=okS_size hok
    rw [wholeF_fuel f g _ (by rw [List.length_drop];omega) (by rw [List.length_drop];omega)]
theorem whole_nil:whole []=true:=rfl
theorem whole_cons (s:List UInt8) (h:s≠ []):whole s=(okS s && whole (s.drop (sizeS s))):=by
 have hl:1≤s.length:=by cases s<;>simp_all
 unfold whole
 conv=>lhs;rw [show s.length=(s.length - 1)+1 by omega];unfold wholeF
 rw [if_neg h]
 cases hok:okS s
 ·rfl
 ·have:=okS_size hok
  rw [wholeF_fuel (s.length - 1) _ _ (by rw [List.length_drop];omega) (Nat.le_refl _)]
theorem wholeR_calls {w:World} {l:List UInt8} (hl:l.length≤2000000):Calls Tryz.prog 15 [.string (bs l)].toArray w fun e w'=>e= .returned (.bool (whole l))∧w'=w:=by
 refine zCz 21 Tryz.func15 ?_
 refine zz ?_
 refine zc_loop (ι:=Nat) (fun p=> [(0,.string (bs l)),(3,.int .i64 p)]) (fun _=>w) (fun p=>p≤l.length∧whole (l.drop p)=whole l) (fun p=>l.length - p) 0 ⟨Nat.zero_le _,rfl⟩ ?_ ?_ ?_
 ·rfl
 ·exact ⟨rfl,rfl,trivial⟩
 rintro p ⟨hp,hw⟩
 by_cases hlt:p<l.length
 ·have hss:=sizeS_le (l.drop p) (drop_ne hlt)
  rw [List.length_drop] at hss
  have hwc:=whole_cons (l.drop p) (drop_ne hlt)
  rw [List.drop_drop] at hwc
  refine zz ?_
  refine zCl rfl (part_calls hl p hlt) ?_
  rintro _ u1 ⟨rfl,rfl⟩
  refine ⟨_,rfl,?_⟩
  cases hok:okS (l.drop p)
  ·rw [hok,Bool.false_and] at hwc
   refine zz ?_
   exact zk_ret1 (.inr rfl) rfl rfl ⟨by rw [←hw,hwc],rfl⟩
  ·have h1:=okS_size hok
   rw [hok,Bool.true_and] at hwc
   refine zz ?_
   exact zk_loop (p+sizeS (l.drop p)) ⟨by omega,by rw [←hwc,hw]⟩ (by omega) rfl ⟨rfl,get_int rfl (by simp),trivial⟩
 ·obtain rfl:p=l.length:=by omega
  rw [List.drop_length,whole_nil] at hw
  refine zz ?_
  exact zk_ret1 (.inr rfl) rfl rfl ⟨by rw [←hw],rfl⟩
def lowN (l:List UInt8):Prop:= ∀c∈l,c.toNat<128∧c≠13
instance (l:List UInt8):Decidable (lowN l):=inferInstanceAs (Decidable (∀c∈l,c.toNat<128∧c≠13))
end Go.Proofs.YtbcmiijollpgeaaGreat.U
namespace Go.Proofs.YtbcmiijollpgeaaGreat.D
open Go Go.Z Go.Proofs
end Go.Proofs.YtbcmiijollpgeaaGreat.D
namespace Go.Proofs.YtbcmiijollpgeaaGreat.J
open Go Go.Z Go.Proofs
open T (big)
theorem cut1 (l:List UInt8) (i:Nat) (h:i<l.length):(l.drop i).take (i+1 - i)= [l.getD i 0]:=by
 rw [T.drop_cons0 l i h,show i+1 - i=1 by omega];rfl
theorem getD_in (l:List UInt8) (i:Nat) (h:i<l.length):l.getD i 0∈l:=by
 rw [List.getD_eq_getElem?_getD,List.getElem?_eq_getElem h];exact List.getElem_mem h
theorem in_getD {l:List UInt8} {c:UInt8} (h:c∈l): ∃j,j<l.length∧l.getD j 0=c:=by
 obtain ⟨j,hj,he⟩:=List.getElem_of_mem h
 exact ⟨j,hj,by rw [List.getD_eq_getElem?_getD,List.getElem?_eq_getElem hj];exact he⟩
theorem index_calls {w:World} (l:List UInt8) (c:UInt8) (hl:l.length≤big):Calls Tryz.prog 16 [.string (bs l),.string (bs [c]),.int .i64 0].toArray w fun e w'=>(∃k:Int,e= .returned (.int .i64 k)∧ -1≤k∧k≤l.length∧(0≤k↔c∈l))∧w'=w:=by
 have hbig:big=1000000000000:=rfl
 have h1:([c]:List UInt8).length=1:=rfl
 obtain ⟨p,hp⟩: ∃p,p= [c]:=⟨_,rfl⟩
 rw [←hp] at h1 ⊢
 refine zCz 29 Tryz.func16 ?_
 repeat' (first|refine za ?_|refine a_cutW rfl rfl rfl fun _ _=> ?_|refine a_catW rfl rfl fun _ _=> ?_|refine a_idxW rfl rfl fun _ _=> ?_|refine a_addW rfl rfl fun _ _=> ?_|refine a_subW rfl rfl fun _ _=> ?_|refine a_min rfl rfl fun _ _ _ _=> ?_|refine a_max rfl rfl fun _ _ _ _=> ?_|refine a_shr rfl rfl fun _ _=> ?_|refine a_and rfl rfl fun _ _=> ?_|refine a_cmp rfl rfl rfl (fun _=> ?_) fun _=> ?_|refine a_eq rfl rfl (fun _=> ?_) fun _=> ?_|refine a_ne rfl rfl (fun _=> ?_) fun _=> ?_)
 refine zc_loopW (ι:=Nat) (fun i u=> [(0,.string (bs l)),(1,.string (bs p)),(7,.int .i64 (i:Nat))]) (fun i u=>i≤l.length∧(∀j,j<i→l.getD j 0≠c)∧u=w) (fun i u=>l.length+1 - i) 0 ⟨Nat.zero_le _,fun j hj=>absurd hj (Nat.not_lt_zero j),rfl⟩ ?_ ?_
 ·exact ⟨rfl,rfl,get_int rfl (by omega),trivial⟩
 rintro i u ⟨hi,hno,hu⟩
 obtain rfl:=hu.symm
 by_cases hlt:i+p.length≤l.length
 ·refine zz ?_
  refine z_cutN i (i+p.length) (want_L rfl) (by decide) rfl rfl rfl rfl (by omega) (by omega) (by omega) ?_
  have hcut:=cut1 l i (by omega)
  rw [h1] at*
  rw [hcut]
  refine zP rfl ?_
  refine zEq rfl rfl (fun hc=> ?_) (fun hc=> ?_)
  ·have hc:l.getD i 0=c:=by rw [hp] at hc;exact (List.cons.inj hc).1
   refine zz ?_
   refine zk_ret1 (.inr rfl) rfl rfl ⟨⟨_,rfl,by omega,by omega,iff_of_true (by omega) (hc▸getD_in l i (by omega))⟩,rfl⟩
  ·refine zz ?_
   refine zk_loopW (i+1) ⟨by omega,fun j hj=> ?_,rfl⟩ (by omega) ⟨rfl,rfl,get_int rfl (by omega),trivial⟩
   rcases Nat.lt_or_ge j i with h2|h2
   ·exact hno j h2
   ·obtain rfl:j=i:=by omega
    exact fun he=>hc (by rw [he,hp])
 ·refine zz ?_
  refine zk_ret1 (.inr rfl) rfl rfl ⟨⟨_,rfl,by omega,by omega,iff_of_false (by omega) (fun hm=> ?_)⟩,rfl⟩
  obtain ⟨j,hj,he⟩:=in_getD hm
  exact hno j (by omega) he
open T (big)
open T (big)
open T (big)
abbrev UB (w:World) (b:Nat) (A H c d F:List UInt8):Prop:=Blk w b 153 [.string (bs A),.string (bs H),.int .i64 0,.string (bs c),.string (bs d),.string (bs F)]
end Go.Proofs.YtbcmiijollpgeaaGreat.J
