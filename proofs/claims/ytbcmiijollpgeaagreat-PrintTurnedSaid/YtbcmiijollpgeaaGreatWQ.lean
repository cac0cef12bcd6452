import Derived.Test.YtbcmiijollpgeaaGreatWP
set_option maxHeartbeats 32000000
set_option maxRecDepth 100000
set_option linter.unusedVariables false
set_option linter.unusedSimpArgs false
namespace Go.Proofs.YtbcmiijollpgeaaGreat.J
open Go Go.Z Go.Proofs
open T (big AT)
theorem inW_calls {w:World} (x W:List UInt8) (hW:W.length≤1000):Calls Tryz.prog 59 [.string (bs x),.string (bs W)].toArray w fun e w'=>e= .returned (.bool (decide (x∈T.wordsN [] W)))∧Chg w w' No:=by
 refine zCz 9 Tryz.func59 ?_
 refine zz ?_
 refine zCl rfl (T.wordsR_calls (l:=W) (by omega)) ?_
 rintro _ w1 ⟨v,rfl,hO,hC⟩
 refine ⟨_,rfl,?_⟩
 have hw2:=B.wordsN_few W []
 obtain ⟨A,c,hv,_⟩:=hO.rd.form
 subst hv
 refine zP rfl ?_
 refine zCp rfl (T.inR_calls _ x hO.rd (by omega)) ?_
 refine zz ?_
 exact zk_ret1 (.inr rfl) rfl rfl ⟨rfl,hC⟩
theorem of_calls {w:World} {v:Value} (t:AT) (W:List UInt8) (hW:W.length≤1000) (h:T.TreeAt false w v t) (hs:t.size≤big):Calls Tryz.prog 33 [v,.string (bs W)].toArray w fun e w'=>(∃q:Bool,e= .returned (.bool q)∧(q=true↔T.ofA (T.wordsN [] W) t))∧Chg w w' No:=by
 have hbig:big=1000000000000:=rfl
 obtain ⟨A,c,rfl,hc⟩:=h.form
 have hls:=t.len_size
 refine zCz 20 Tryz.func33 ?_
 refine zz ?_
 refine zc_loopW (ι:=Nat) (fun i u=> [(0,.slice A t.len c),(1,.string (bs W)),(5,.int .i64 (i:Nat))]) (fun i u=>i≤t.len∧(T.ofA (T.wordsN [] W) t↔T.ofA (T.wordsN [] W) (t.dropN i))∧Chg w u No) (fun i u=>t.len - i) 0 ⟨Nat.zero_le _,by rw [show t.dropN 0=t by cases t<;>rfl],Chg.refl _ _⟩ ⟨rfl,rfl,rfl,trivial⟩ ?_
 rintro i u ⟨hi,hall,hC⟩
 by_cases hlt:i<t.len
 rotate_left
 ·obtain rfl:i=t.len:=by omega
  rw [t.drop_len] at hall
  refine zz ?_
  exact zk_ret1 (.inr rfl) rfl rfl ⟨⟨true,rfl,iff_of_true rfl (hall.2 trivial)⟩,hC⟩
 obtain ⟨b',o,c',x,k,r,A',F,K,e1,hv,hN,hA,hF,hK⟩:=(h.no hC).at_ i hlt
 cases hv
 have c0:=hN.c0
 rw [e1] at hall
 refine zz ?_
 refine zCr rfl (inW_calls x.name W hW) fun u2 hC2=> ?_
 by_cases hx:x.name∈T.wordsN [] W
 ·rw [decide_eq_true hx]
  refine zz ?_
  exact zk_loopW (i+1) ⟨by omega,by rw [t.drop_succ i x k r e1,hall];exact ⟨fun h=>h.2,fun h=>⟨hx,h⟩⟩,hC.no hC2⟩ (by omega) ⟨rfl,rfl,get_int rfl (by omega),trivial⟩
 ·rw [decide_eq_false hx]
  refine zz ?_
  exact zk_ret1 (.inr rfl) rfl rfl ⟨⟨false,rfl,iff_of_false Bool.false_ne_true (fun h=>hx (hall.1 h).1)⟩,hC.no hC2⟩
def inlW:List UInt8:= [97,32,98,114,32,99,111,100,101,32,101,109,32,105,109,103,32,115,116,114,111,110,103,32,115,117,98,32,115,117,112]
theorem inl_words:T.wordsN [] inlW=T.tInl:=by decide+kernel
theorem deep_calls: ∀(f:Nat) {w:World} {v:Value} (t:AT),t.size≤f→f≤big→T.TreeAt false w v t→Calls Tryz.prog 34 [v].toArray w fun e w'=>(∃d:Nat,e= .returned (.int .i64 d)∧d≤t.size)∧Chg w w' No:=by
 have hbig:big=1000000000000:=rfl
 intro f
 induction f with
 |zero=>
  intro w v t hs hf h
  cases t with
  |cons x k r=>simp [AT.size] at hs
  |nil=>
   obtain ⟨A,c,rfl,hc⟩:=h.form
   refine zCz 21 Tryz.func34 ?_
   refine zz ?_
   refine zc_loopW (ι:=Nat) (fun i u=> [(0,.slice A 0 c),(3,.int .i64 0),(4,.int .i64 0)]) (fun i u=>u=w) (fun i u=>0) 0 rfl ⟨rfl,rfl,rfl,trivial⟩ ?_
   rintro i u rfl
   refine zz ?_
   exact zk_ret1 (.inr rfl) rfl rfl ⟨⟨0,rfl,Nat.zero_le _⟩,Chg.refl _ _⟩
 |succ f ih'=>
  intro w v t hs hf h
  have ih: ∀(t:AT),t.size≤f→ ∀{w:World} {v:Value},T.TreeAt false w v t→Calls Tryz.prog 34 [v].toArray w fun e w'=>(∃d:Nat,e= .returned (.int .i64 d)∧d≤t.size)∧Chg w w' No:=fun t ht w v h=>ih' t ht (by omega) h
  obtain ⟨A,c,rfl,hc⟩:=h.form
  have hls:=t.len_size
  refine zCz 21 Tryz.func34 ?_
  refine zz ?_
  refine zc_loopW (ι:=Nat×Nat) (fun q u=> [(0,.slice A t.len c),(3,.int .i64 (q.2:Nat)),(4,.int .i64 (q.1:Nat))]) (fun q u=>q.1≤t.len∧q.2≤t.size∧Chg w u No) (fun q u=>t.len - q.1) (0,0) ⟨Nat.zero_le _,Nat.zero_le _,Chg.refl _ _⟩ ⟨rfl,rfl,rfl,trivial⟩ ?_
  rintro ⟨i,m⟩ u ⟨hi,hm,hC⟩
  dsimp only at hi hm ⊢
  by_cases hlt:i<t.len
  rotate_left
  ·refine zz ?_
   exact zk_ret1 (.inr rfl) rfl rfl ⟨⟨m,rfl,hm⟩,hC⟩
  obtain ⟨b',o,c',x,k,r,A',F,K,e1,hv,hN,hA,hF,hK⟩:=(h.no hC).at_ i hlt
  cases hv
  have hsz:=t.drop_size i
  rw [e1] at hsz
  simp only [AT.size] at hsz
  obtain ⟨A4,c4,rfl,_⟩:=hK.form
  have c4':=hN.c4
  refine zz ?_
  refine zCl rfl (ih k (by omega) hK) ?_
  rintro _ u2 ⟨⟨d,rfl,hd⟩,hC2⟩
  refine ⟨_,rfl,?_⟩
  refine zAd rfl rfl ?_
  refine zl_run (want_L rfl) rfl (by decide) (r_max rfl rfl (c:=((max m (1+d):Nat):Int)) (by split<;>omega)) ?_
  refine zz ?_
  exact zk_loopW (i+1,max m (1+d)) ⟨by dsimp only;omega,by dsimp only;omega,hC.no hC2⟩ (by dsimp only;omega) ⟨rfl,rfl,get_int rfl (by dsimp only;omega),trivial⟩
open T (big AT)
theorem trim1_calls {w:World} (l:List UInt8) (hl:l.length≤big):Calls Tryz.prog 141 [.string (bs l)].toArray w fun e w'=>(∃s:List UInt8,e= .returned (.string (bs s))∧s.length≤l.length)∧w'=w:=by
 have hbig:big=1000000000000:=rfl
 refine zCz 34 Tryz.func141 ?_
 repeat' (first|refine za ?_|refine a_cutW rfl rfl rfl fun _ _=> ?_|refine a_catW rfl rfl fun _ _=> ?_|refine a_idxW rfl rfl fun _ _=> ?_|refine a_addW rfl rfl fun _ _=> ?_|refine a_subW rfl rfl fun _ _=> ?_|refine a_min rfl rfl fun _ _ _ _=> ?_|refine a_max rfl rfl fun _ _ _ _=> ?_|refine a_shr rfl rfl fun _ _=> ?_|refine a_and rfl rfl fun _ _=> ?_|refine a_cmp rfl rfl rfl (fun _=> ?_) fun _=> ?_|refine a_eq rfl rfl (fun _=> ?_) fun _=> ?_|refine a_ne rfl rfl (fun _=> ?_) fun _=> ?_)
 refine zc_midBX (ι:=Nat) (fun k u=>k≤l.length∧u=w) (fun k=> [(0,.string (bs l)),(3,.int .i64 k),(4,.int .i64 l.length)]) ?_ ?_
 ·refine zc_loopW (ι:=Nat) (fun i u=> [(0,.string (bs l)),(3,.int .i64 (i:Nat)),(4,.int .i64 l.length)]) (fun i u=>i≤l.length∧u=w) (fun i u=>l.length - i) 0 ⟨Nat.zero_le _,rfl⟩ ⟨rfl,rfl,rfl,trivial⟩ ?_
  rintro i u ⟨hi,hu⟩
  obtain rfl:=hu.symm
  by_cases hlt:i<l.length
  ·refine zy ?_
   refine zCp rfl (T.blankR_calls _) ?_
   cases T.blankN _
   ·refine zy ?_
    exact zk_midX i ⟨hi,rfl⟩ ⟨rfl,rfl,rfl,trivial⟩
   ·refine zy ?_
    exact zk_loopW (i+1) ⟨by omega,rfl⟩ (by omega) ⟨rfl,get_int rfl (by omega),rfl,trivial⟩
  ·refine zy ?_
   exact zk_midX i ⟨hi,rfl⟩ ⟨rfl,rfl,rfl,trivial⟩
 rintro k u ⟨hk,hu⟩
 obtain rfl:=hu.symm
 refine zS (zB ?_)
 refine zc_midBX (ι:=Nat) (fun m v=>k≤m∧m≤l.length∧v=w) (fun m=> [(0,.string (bs l)),(3,.int .i64 k),(4,.int .i64 m)]) ?_ ?_
 ·refine zc_loopW (ι:=Nat) (fun i u=> [(0,.string (bs l)),(3,.int .i64 k),(4,.int .i64 (i:Nat))]) (fun i u=>k≤i∧i≤l.length∧u=w) (fun i u=>i) l.length ⟨hk,Nat.le_refl _,rfl⟩ ⟨rfl,rfl,rfl,trivial⟩ ?_
  rintro i u ⟨hki,hi,hu⟩
  obtain rfl:=hu.symm
  by_cases hlt:k<i
  ·refine zy ?_
   refine zCp rfl (T.blankR_calls _) ?_
   cases T.blankN _
   ·refine zy ?_
    exact zk_midX i ⟨hki,hi,rfl⟩ ⟨rfl,rfl,rfl,trivial⟩
   ·refine zy ?_
    exact zk_loopW (i - 1) ⟨by omega,by omega,rfl⟩ (by omega) ⟨rfl,rfl,get_int rfl (by omega),trivial⟩
  ·refine zy ?_
   exact zk_midX i ⟨hki,hi,rfl⟩ ⟨rfl,rfl,rfl,trivial⟩
 rintro m u ⟨hkm,hm,hu⟩
 obtain rfl:=hu.symm
 refine zy ?_
 refine z_cutN k m (want_L rfl) (by decide) rfl rfl rfl rfl rfl (by omega) (by omega) ?_
 refine zy ?_
 exact zk_ret1 (.inr rfl) rfl rfl ⟨⟨_,rfl,by rw [List.length_take,List.length_drop];omega⟩,rfl⟩
theorem wt_at {t:AT} {i:Nat} {x:T.Hd} {k r:AT} (h:t.dropN i= .cons x k r):6*x.text.length≤t.wt∧k.wt≤t.wt:=by
 have:=t.drop_text i
 rw [h] at this
 simp only [AT.wt] at this
 omega
theorem blank_calls: ∀(n:Nat) {w:World} {v:Value} (t:AT),t.size=n→n≤big→t.wt≤big→T.TreeAt false w v t→Calls Tryz.prog 101 [v].toArray w fun e w'=>(∃q:Bool,e= .returned (.bool q)∧(q=true→ ∀i x k r,i<t.len→t.dropN i= .cons x k r→x.name≠T.nImg))∧Chg w w' No:=by
 have hbig:big=1000000000000:=rfl
 intro n
 induction n using Nat.strongRecOn with
 |_ n ih=>
 intro w v t hs hn hwt h
 obtain ⟨A,c,rfl,hc⟩:=h.form
 have hls:=t.len_size
 refine zCz 42 Tryz.func101 ?_
 refine zy ?_
 refine zc_loopW (ι:=Nat) (fun i u=> [(0,.slice A t.len c),(3,.int .i64 (i:Nat))]) (fun i u=>i≤t.len∧(∀j x k r,j<i→t.dropN j= .cons x k r→x.name≠T.nImg)∧Chg w u No) (fun i u=>t.len - i) 0 ⟨Nat.zero_le _,fun j _ _ _ hj=>absurd hj (Nat.not_lt_zero j),Chg.refl _ _⟩ ⟨rfl,rfl,trivial⟩ ?_
 rintro i u ⟨hi,hno,hC⟩
 by_cases hlt:i<t.len
 rotate_left
 ·obtain rfl:i=t.len:=by omega
  refine zy ?_
  exact zk_ret1 (.inr rfl) rfl rfl ⟨⟨true,rfl,fun _=>hno⟩,hC⟩
 obtain ⟨b',o,c',x,k,r,A',F,K,e1,hv,hN,hA,hF,hK⟩:=(h.no hC).at_ i hlt
 cases hv
 obtain ⟨hx,hk⟩:=wt_at e1
 have c0:=hN.c0
 have c2:=hN.c2
 have c4:=hN.c4
 have hsz:=t.drop_size i
 rw [e1] at hsz
 simp only [AT.size] at hsz
 obtain ⟨A4,c4',rfl,_⟩:=hK.form
 have hnext:x.name≠T.nImg→ ∀j x k r,j<i+1→t.dropN j= .cons x k r→x.name≠T.nImg:=fun hne j x' k' r' hj he=>by
  rcases Nat.lt_or_ge j i with h1|h1
  ·exact hno j x' k' r' h1 he
  ·obtain rfl:j=i:=by omega
   rw [e1] at he;cases he;exact hne
 have hfalse: ∃q:Bool,Ending.returned (.bool false)= .returned (.bool q)∧(q=true→ ∀i x k r,i<t.len→t.dropN i= .cons x k r→x.name≠T.nImg):=⟨false,rfl,fun h=>by cases h⟩
 by_cases himg:x.name=T.nImg
 ·refine zy ?_
  exact zk_ret1 (.inr rfl) rfl rfl ⟨hfalse,hC⟩
 have hih: ∀{u2:World},Chg u u2 No→Calls Tryz.prog 101 [.slice A4 k.len c4'].toArray u2 _:=fun hc2=>ih k.size (by omega) k rfl (by omega) (by omega) (hK.no hc2)
 by_cases hx0:x.name= []
 ·refine zy ?_
  refine zCl rfl (trim1_calls x.text (by omega)) ?_
  rintro _ u2 ⟨⟨s,rfl,_⟩,hu2⟩
  obtain rfl:=hu2.symm
  refine ⟨_,rfl,?_⟩
  by_cases hs0:s= []
  ·refine zy ?_
   refine zCl rfl (hih (Chg.refl _ _)) ?_
   rintro _ u2 ⟨⟨q,rfl,_⟩,hC2⟩
   refine ⟨_,rfl,?_⟩
   cases q
   ·refine zy ?_
    exact zk_ret1 (.inr rfl) rfl rfl ⟨hfalse,hC.no hC2⟩
   ·refine zy ?_
    exact zk_loopW (i+1) ⟨by omega,hnext himg,hC.no hC2⟩ (by omega) ⟨rfl,get_int rfl (by omega),trivial⟩
  ·refine zy ?_
   exact zk_ret1 (.inr rfl) rfl rfl ⟨hfalse,hC⟩
 ·refine zy ?_
  refine zCl rfl (hih (Chg.refl _ _)) ?_
  rintro _ u2 ⟨⟨q,rfl,_⟩,hC2⟩
  refine ⟨_,rfl,?_⟩
  cases q
  ·refine zy ?_
   exact zk_ret1 (.inr rfl) rfl rfl ⟨hfalse,hC.no hC2⟩
  ·refine zy ?_
   exact zk_loopW (i+1) ⟨by omega,hnext himg,hC.no hC2⟩ (by omega) ⟨rfl,get_int rfl (by omega),trivial⟩
end Go.Proofs.YtbcmiijollpgeaaGreat.J
namespace Go.Proofs.YtbcmiijollpgeaaGreat.V
open Go Go.Z Go.Proofs
open T (big AT)
def LT (p:Bool) (t:AT):Prop:=T.lineA t∧(p=true→T.headT t=false)
def prevT (t:AT) (i:Nat):Bool:=if i=0 then false else T.headT (t.dropN (i - 1))
theorem LT_step {p:Bool} {x:T.Hd} {k r:AT} (h1:x.name= []∨x.name∈T.tInl) (h2:p=true→x.name≠ []) (h:LT (decide (x.name= [])) r):LT p (.cons x k r):=
 ⟨⟨h1,fun hx=>h.2 (decide_eq_true hx),h.1⟩,fun hp=>decide_eq_false (h2 hp)⟩
theorem line_calls {w:World} {v:Value} (t:AT) (h:T.TreeAt false w v t) (hs:t.size≤big):Calls Tryz.prog 100 [v].toArray w fun e w'=>(∃q:Bool,e= .returned (.bool q)∧(q=true→T.lineA t))∧Chg w w' No:=by
 have hbig:big=1000000000000:=rfl
 obtain ⟨A,c,rfl,hc⟩:=h.form
 have hls:=t.len_size
 refine zCz 46 Tryz.func100 ?_
 refine zy ?_
 refine zc_loopW (ι:=Nat) (fun i u=> [(0,.slice A t.len c),(3,.int .i64 (i:Nat))]) (fun i u=>i≤t.len∧(LT (prevT t i) (t.dropN i)→T.lineA t)∧Chg w u No) (fun i u=>t.len - i) 0 ⟨Nat.zero_le _,fun h=>by rw [show t.dropN 0=t by cases t<;>rfl] at h;exact h.1,Chg.refl _ _⟩ ⟨rfl,rfl,trivial⟩ ?_
 rintro i u ⟨hi,hL,hC⟩
 have hfalse: ∃q:Bool,Ending.returned (.bool false)= .returned (.bool q)∧(q=true→T.lineA t):=⟨false,rfl,fun h=>by cases h⟩
 by_cases hlt:i<t.len
 rotate_left
 ·obtain rfl:i=t.len:=by omega
  rw [t.drop_len] at hL
  refine zy ?_
  exact zk_ret1 (.inr rfl) rfl rfl ⟨⟨true,rfl,fun _=>hL ⟨trivial,fun _=>rfl⟩⟩,hC⟩
 obtain ⟨b',o,c',x,k,r,A',F,K,e1,hv,hN,hA,hF,hK⟩:=(h.no hC).at_ i hlt
 cases hv
 have c0:=hN.c0
 have hnext:(x.name= []∨x.name∈T.tInl)→(prevT t i=true→x.name≠ [])→(LT (prevT t (i+1)) (t.dropN (i+1))→T.lineA t):=fun h1 h2 hh=>by
  refine hL ?_
  rw [e1]
  rw [t.drop_succ i x k r e1] at hh
  refine LT_step h1 h2 ?_
  have:prevT t (i+1)=decide (x.name= []):=by
   unfold prevT
   rw [if_neg (by omega),Nat.add_sub_cancel,e1];rfl
  rw [this] at hh;exact hh
 by_cases hx:x.name= []
 ·by_cases h0:0<i
  ·obtain ⟨b2,o2,c2,x2,k2,r2,A2,F2,K2,e2,hv2,hN2,_⟩:=(h.no hC).at_ (i - 1) (by omega)
   cases hv2
   have d0:=hN2.c0
   have hp:prevT t i=decide (x2.name= []):=by unfold prevT;rw [if_neg (by omega),e2];rfl
   by_cases hx2:x2.name= []
   ·refine zy ?_
    refine zL1 rfl (cell_at d0 (by omega)) (zy ?_)
    exact zk_ret1 (.inr rfl) rfl rfl ⟨hfalse,hC⟩
   ·refine zy ?_
    refine zL1 rfl (cell_at d0 (by omega)) (zy ?_)
    exact zk_loopW (i+1) ⟨by omega,hnext (.inl hx) (fun hh=>by rw [hp,decide_eq_false hx2] at hh;cases hh),hC⟩ (by omega) ⟨rfl,get_int rfl (by omega),trivial⟩
  ·refine zy ?_
   exact zk_loopW (i+1) ⟨by omega,hnext (.inl hx) (fun hh=>by unfold prevT at hh;rw [if_pos (by omega)] at hh;cases hh),hC⟩ (by omega) ⟨rfl,get_int rfl (by omega),trivial⟩
 ·refine zy ?_
  refine zCr rfl (J.inW_calls x.name J.inlW (by decide)) fun u2 hC2=> ?_
  rw [J.inl_words]
  by_cases hin:x.name∈T.tInl
  ·rw [decide_eq_true hin]
   refine zy ?_
   exact zk_loopW (i+1) ⟨by omega,hnext (.inr hin) (fun _=>hx),hC.no hC2⟩ (by omega) ⟨rfl,get_int rfl (by omega),trivial⟩
  ·rw [decide_eq_false hin]
   refine zy ?_
   exact zk_ret1 (.inr rfl) rfl rfl ⟨hfalse,hC.no hC2⟩
theorem has_calls (nm:List UInt8): ∀(n:Nat) {w:World} {v:Value} (t:AT),t.size=n→n≤big→T.TreeAt false w v t→Calls Tryz.prog 102 [v,.string (bs nm)].toArray w fun e w'=>(∃q:Bool,e= .returned (.bool q)∧(q=false→ ¬T.hasA nm t))∧Chg w w' No:=by
 have hbig:big=1000000000000:=rfl
 intro n
 induction n using Nat.strongRecOn with
 |_ n ih=>
 intro w v t hs hn h
 obtain ⟨A,c,rfl,hc⟩:=h.form
 have hls:=t.len_size
 refine zCz 28 Tryz.func102 ?_
 refine zy ?_
 refine zc_loopW (ι:=Nat) (fun i u=> [(0,.slice A t.len c),(1,.string (bs nm)),(5,.int .i64 (i:Nat))]) (fun i u=>i≤t.len∧(T.hasA nm t→T.hasA nm (t.dropN i))∧Chg w u No) (fun i u=>t.len - i) 0 ⟨Nat.zero_le _,fun h=>by rw [show t.dropN 0=t by cases t<;>rfl];exact h,Chg.refl _ _⟩ ⟨rfl,rfl,rfl,trivial⟩ ?_
 rintro i u ⟨hi,hH,hC⟩
 have htrue: ∃q:Bool,Ending.returned (.bool true)= .returned (.bool q)∧(q=false→ ¬T.hasA nm t):=⟨true,rfl,fun h=>by cases h⟩
 by_cases hlt:i<t.len
 rotate_left
 ·obtain rfl:i=t.len:=by omega
  rw [t.drop_len] at hH
  refine zy ?_
  exact zk_ret1 (.inr rfl) rfl rfl ⟨⟨false,rfl,fun _ hh=>hH hh⟩,hC⟩
 obtain ⟨b',o,c',x,k,r,A',F,K,e1,hv,hN,hA,hF,hK⟩:=(h.no hC).at_ i hlt
 cases hv
 have c0:=hN.c0
 have c4:=hN.c4
 have hsz:=t.drop_size i
 rw [e1] at hsz hH
 simp only [AT.size] at hsz
 obtain ⟨A4,c4',rfl,_⟩:=hK.form
 by_cases hx:x.name=nm
 ·refine zy ?_
  exact zk_ret1 (.inr rfl) rfl rfl ⟨htrue,hC⟩
 ·refine zy ?_
  refine zCl rfl (ih k.size (by omega) k rfl (by omega) hK) ?_
  rintro _ u2 ⟨⟨q,rfl,hq⟩,hC2⟩
  refine ⟨_,rfl,?_⟩
  cases q
  ·refine zy ?_
   exact zk_loopW (i+1) ⟨by omega,fun hh=>by
    rw [t.drop_succ i x k r e1]
    rcases hH hh with h1|h1|h1
    ·exact absurd h1 hx
    ·exact absurd h1 (hq rfl)
    ·exact h1,hC.no hC2⟩ (by omega) ⟨rfl,rfl,get_int rfl (by omega),trivial⟩
  ·refine zy ?_
   exact zk_ret1 (.inr rfl) rfl rfl ⟨htrue,hC.no hC2⟩
theorem wholeV_calls {w:World} (l:List UInt8) (hl:l.length≤1000000):Calls Tryz.prog 60 [.string (bs l)].toArray w fun e w'=>(∃q:Bool,e= .returned (.bool q)∧(q=true→0∉l))∧w'=w:=by
 have hbig:big=1000000000000:=rfl
 refine zCz 10 Tryz.func60 ?_
 refine zy ?_
 refine zCp rfl (U.wholeR_calls (l:=l) (by omega)) ?_
 cases hw:U.whole l
 ·refine zy ?_
  exact zk_ret1 (.inr rfl) rfl rfl ⟨⟨false,rfl,fun h=>by cases h⟩,rfl⟩
 refine zP rfl (zP rfl ?_)
 refine zCl rfl (J.index_calls l 0 (by omega)) ?_
 rintro _ v ⟨⟨k,rfl,h1,h2,h3⟩,hv⟩
 obtain rfl:=hv.symm
 refine ⟨_,rfl,?_⟩
 by_cases h4:0≤k
 ·refine zy ?_
  exact zk_ret1 (.inr rfl) rfl rfl ⟨⟨false,rfl,fun h=>by cases h⟩,rfl⟩
 ·refine zy ?_
  exact zk_ret1 (.inr rfl) rfl rfl ⟨⟨true,rfl,fun _ hh=>h4 (h3.2 hh)⟩,rfl⟩
end Go.Proofs.YtbcmiijollpgeaaGreat.V
namespace Go.Proofs.YtbcmiijollpgeaaGreat.J
open Go Go.Z Go.Proofs
open T (big AT)
theorem size_wt: ∀a:AT,10*a.size≤a.wt
 | .nil=>Nat.le_refl _
 | .cons x k r=>by
  have h1:=size_wt k
  have h2:=size_wt r
  simp only [AT.size,AT.wt];omega
section
variable {w : World} {A F K : Value} {tx : List UInt8} {k : AT}
end
end Go.Proofs.YtbcmiijollpgeaaGreat.J
namespace Go.Proofs.YtbcmiijollpgeaaGreat.V
open Go Go.Z Go.Proofs
open T (big AT)
theorem kids_calls {w:World} {A F K:Value} {nm tx:List UInt8} {k:AT} (hA:T.isSl A) (hF:T.isSl F) (hK:T.TreeAt false w K k) (hk:k.wt≤big):
  Calls Tryz.prog 62 [.agg #[.string (bs nm),A,.string (bs tx),F,K]].toArray w fun e w'=>(∃q:Bool,e= .returned (.bool q)∧(q=true→T.kidsA nm k))∧Chg w w' No:=by
 have hbig:big=1000000000000:=rfl
 have hsz:=J.size_wt k
 have hln:=k.len_size
 obtain ⟨A1,m1,c1,rfl⟩:=hA
 obtain ⟨A2,m2,c2,rfl⟩:=hF
 obtain ⟨AK,cK,rfl,hcK⟩:=hK.form
 refine zCz 107 Tryz.func62 ?_
 refine zS (zR ?_)
 refine zBx rfl (fun w1 b1 hN1=> ?_)
 have hb1:Blk w1 b1 43 [.string (bs nm),.slice A1 m1 c1,.string (bs tx),.slice A2 m2 c2,.slice AK k.len cK]:=hN1.blk
 have hK1:=hK.no hN1.chg
 have hX:=hN1.chg
 refine zP rfl (zN (zK (zS (zR (zfa rfl (zlB rfl ?_))))))
 refine zP rfl (zN (zK (zS (zS (zR (zfa rfl (zlB rfl ?_)))))))
 refine zN (zK (zB ?_))
 refine zc_midX (ι:=Bool) (fun q u=>u=w1∧(q=true→nm∈([[104,50],[104,51],[104,52],[104,53],[104,54],[112],[112,114,101]]:List (List UInt8)))) (fun q=> [(1,.pointer (some ⟨b1,0,none⟩)),(3,.slice AK k.len cK),(7,.string (bs nm)),(8,.bool q)]) ?_ ?_
 ·skip
  refine zS (zR ?_)
  refine zEq rfl rfl (fun hc=> ?_) (fun hc=> ?_)
  ·refine zz ?_
   exact zk_midX true ⟨rfl,fun _=>by rw [hc];decide⟩ ⟨rfl,rfl,rfl,rfl,trivial⟩
  refine zz ?_
  refine zEq rfl rfl (fun hc=> ?_) (fun hc=> ?_)
  ·refine zz ?_
   exact zk_midX true ⟨rfl,fun _=>by rw [hc];decide⟩ ⟨rfl,rfl,rfl,rfl,trivial⟩
  refine zz ?_
  refine zEq rfl rfl (fun hc=> ?_) (fun hc=> ?_)
  ·refine zz ?_
   exact zk_midX true ⟨rfl,fun _=>by rw [hc];decide⟩ ⟨rfl,rfl,rfl,rfl,trivial⟩
  refine zz ?_
  refine zEq rfl rfl (fun hc=> ?_) (fun hc=> ?_)
  ·refine zz ?_
   exact zk_midX true ⟨rfl,fun _=>by rw [hc];decide⟩ ⟨rfl,rfl,rfl,rfl,trivial⟩
  refine zz ?_
  refine zEq rfl rfl (fun hc=> ?_) (fun hc=> ?_)
  ·refine zz ?_
   exact zk_midX true ⟨rfl,fun _=>by rw [hc];decide⟩ ⟨rfl,rfl,rfl,rfl,trivial⟩
  refine zz ?_
  refine zEq rfl rfl (fun hc=> ?_) (fun hc=> ?_)
  ·refine zz ?_
   exact zk_midX true ⟨rfl,fun _=>by rw [hc];decide⟩ ⟨rfl,rfl,rfl,rfl,trivial⟩
  refine zz ?_
  refine zEq rfl rfl (fun hc=> ?_) (fun hc=> ?_)
  ·refine zP rfl (zN ?_)
   exact zk_midX true ⟨rfl,fun _=>by rw [hc];decide⟩ ⟨rfl,rfl,rfl,rfl,trivial⟩
  refine zP rfl (zN ?_)
  exact zk_midX false ⟨rfl,fun h=>by cases h⟩ ⟨rfl,rfl,rfl,rfl,trivial⟩
 rintro q u ⟨hu,hq⟩
 obtain rfl:=hu.symm
 cases q
 rotate_left
 ·have hn:=hq rfl
  refine zz ?_
  refine zCl rfl (line_calls k hK1 (by omega)) ?_
  rintro _ w2 ⟨⟨q,rfl,hl⟩,hC2⟩
  refine ⟨_,rfl,?_⟩
  cases q
  ·refine zz ?_
   exact zk_ret1 (.inr rfl) rfl rfl ⟨⟨false,rfl,fun h=>by cases h⟩,hX.no hC2⟩
  refine zP rfl (zP rfl ?_)
  refine zCl rfl (J.blank_calls k.size k rfl (by omega) hk (hK1.no hC2)) ?_
  rintro _ w3 ⟨⟨q,rfl,_⟩,hC3⟩
  refine ⟨_,rfl,?_⟩
  cases q
  ·refine zz ?_
   exact zk_ret1 (.inr rfl) rfl rfl ⟨⟨_,rfl,fun _=>T.kids_line hn (hl rfl)⟩,(hX.no hC2).no hC3⟩
  ·refine zz ?_
   exact zk_ret1 (.inr rfl) rfl rfl ⟨⟨_,rfl,fun _=>T.kids_line hn (hl rfl)⟩,(hX.no hC2).no hC3⟩
 refine zF rfl ?_
 refine zc_midX (ι:=Bool) (fun q u=>u=w1∧(q=true→nm∈([[97],[99,111,100,101],[101,109],[115,116,114,111,110,103],[115,117,98],[115,117,112]]:List (List UInt8)))) (fun q=> [(1,.pointer (some ⟨b1,0,none⟩)),(3,.slice AK k.len cK),(7,.string (bs nm)),(23,.bool q)]) ?_ ?_
 ·skip
  refine zS (zR ?_)
  refine zEq rfl rfl (fun hc=> ?_) (fun hc=> ?_)
  ·refine zz ?_
   exact zk_midX true ⟨rfl,fun _=>by rw [hc];decide⟩ ⟨rfl,rfl,rfl,rfl,trivial⟩
  refine zz ?_
  refine zEq rfl rfl (fun hc=> ?_) (fun hc=> ?_)
  ·refine zz ?_
   exact zk_midX true ⟨rfl,fun _=>by rw [hc];decide⟩ ⟨rfl,rfl,rfl,rfl,trivial⟩
  refine zz ?_
  refine zEq rfl rfl (fun hc=> ?_) (fun hc=> ?_)
  ·refine zz ?_
   exact zk_midX true ⟨rfl,fun _=>by rw [hc];decide⟩ ⟨rfl,rfl,rfl,rfl,trivial⟩
  refine zz ?_
  refine zEq rfl rfl (fun hc=> ?_) (fun hc=> ?_)
  ·refine zz ?_
   exact zk_midX true ⟨rfl,fun _=>by rw [hc];decide⟩ ⟨rfl,rfl,rfl,rfl,trivial⟩
  refine zz ?_
  refine zEq rfl rfl (fun hc=> ?_) (fun hc=> ?_)
  ·refine zz ?_
   exact zk_midX true ⟨rfl,fun _=>by rw [hc];decide⟩ ⟨rfl,rfl,rfl,rfl,trivial⟩
  refine zz ?_
  refine zEq rfl rfl (fun hc=> ?_) (fun hc=> ?_)
  ·refine zP rfl (zN ?_)
   exact zk_midX true ⟨rfl,fun _=>by rw [hc];decide⟩ ⟨rfl,rfl,rfl,rfl,trivial⟩
  refine zP rfl (zN ?_)
  exact zk_midX false ⟨rfl,fun h=>by cases h⟩ ⟨rfl,rfl,rfl,rfl,trivial⟩
 rintro q u ⟨hu,hq⟩
 obtain rfl:=hu.symm
 cases q
 rotate_left
 ·have hn:=hq rfl
  refine zz ?_
  refine zCl rfl (line_calls k hK1 (by omega)) ?_
  rintro _ w2 ⟨⟨q,rfl,hl⟩,hC2⟩
  refine ⟨_,rfl,?_⟩
  have hb2:=hb1.no hC2
  cases q
  ·refine zz ?_
   exact zk_ret1 (.inr rfl) rfl rfl ⟨⟨false,rfl,fun h=>by cases h⟩,hX.no hC2⟩
  by_cases h0:0<k.len
  rotate_left
  ·refine zz ?_
   exact zk_ret1 (.inr rfl) rfl rfl ⟨⟨false,rfl,fun h=>by cases h⟩,hX.no hC2⟩
  refine zz ?_
  refine zCl rfl (has_calls nm k.size k rfl (by omega) (hK1.no hC2)) ?_
  rintro _ w3 ⟨⟨q,rfl,hh⟩,hC3⟩
  refine ⟨_,rfl,?_⟩
  cases q
  ·refine zz ?_
   exact zk_ret1 (.inr rfl) rfl rfl ⟨⟨_,rfl,fun _=>T.kids_inl hn ⟨hl rfl,hh rfl⟩⟩,(hX.no hC2).no hC3⟩
  ·refine zz ?_
   exact zk_ret1 (.inr rfl) rfl rfl ⟨⟨false,rfl,fun h=>by cases h⟩,(hX.no hC2).no hC3⟩
 refine zF rfl ?_
 refine zc_midX (ι:=Bool) (fun q u=>u=w1∧(q=true→nm∈([[98,114],[104,114],[105,109,103]]:List (List UInt8)))) (fun q=> [(1,.pointer (some ⟨b1,0,none⟩)),(3,.slice AK k.len cK),(7,.string (bs nm)),(44,.bool q)]) ?_ ?_
 ·skip
  refine zS (zR ?_)
  refine zEq rfl rfl (fun hc=> ?_) (fun hc=> ?_)
  ·refine zz ?_
   exact zk_midX true ⟨rfl,fun _=>by rw [hc];decide⟩ ⟨rfl,rfl,rfl,rfl,trivial⟩
  refine zz ?_
  refine zEq rfl rfl (fun hc=> ?_) (fun hc=> ?_)
  ·refine zz ?_
   exact zk_midX true ⟨rfl,fun _=>by rw [hc];decide⟩ ⟨rfl,rfl,rfl,rfl,trivial⟩
  refine zz ?_
  refine zEq rfl rfl (fun hc=> ?_) (fun hc=> ?_)
  ·refine zP rfl (zN ?_)
   exact zk_midX true ⟨rfl,fun _=>by rw [hc];decide⟩ ⟨rfl,rfl,rfl,rfl,trivial⟩
  refine zP rfl (zN ?_)
  exact zk_midX false ⟨rfl,fun h=>by cases h⟩ ⟨rfl,rfl,rfl,rfl,trivial⟩
 rintro q u ⟨hu,hq⟩
 obtain rfl:=hu.symm
 cases q
 rotate_left
 ·have hn:=hq rfl
  by_cases h0:k.len=0
  ·have hkn:k= .nil:=by
    cases k with
    |nil=>rfl
    |cons x q r=>simp [AT.len] at h0
   refine zz ?_
   exact zk_ret1 (.inr rfl) rfl rfl ⟨⟨_,rfl,fun _=>T.kids_leaf (by revert hn;exact (show∀a∈([[98,114],[104,114],[105,109,103]]:List (List UInt8)),a∈([[104,114],[98,114],[105,109,103]]:List (List UInt8)) by decide) nm) hkn⟩,hX⟩
  ·refine zz ?_
   exact zk_ret1 (.inr rfl) rfl rfl ⟨⟨false,rfl,fun h=>by cases h⟩,hX⟩
 refine zF rfl ?_
 refine zc_midX (ι:=Bool) (fun q u=>u=w1∧(q=true→nm∈([[111,108],[117,108]]:List (List UInt8)))) (fun q=> [(1,.pointer (some ⟨b1,0,none⟩)),(3,.slice AK k.len cK),(7,.string (bs nm)),(51,.bool q)]) ?_ ?_
 ·skip
  refine zS (zR ?_)
  refine zEq rfl rfl (fun hc=> ?_) (fun hc=> ?_)
  ·refine zz ?_
   exact zk_midX true ⟨rfl,fun _=>by rw [hc];decide⟩ ⟨rfl,rfl,rfl,rfl,trivial⟩
  refine zz ?_
  refine zEq rfl rfl (fun hc=> ?_) (fun hc=> ?_)
  ·refine zP rfl (zN ?_)
   exact zk_midX true ⟨rfl,fun _=>by rw [hc];decide⟩ ⟨rfl,rfl,rfl,rfl,trivial⟩
  refine zP rfl (zN ?_)
  exact zk_midX false ⟨rfl,fun h=>by cases h⟩ ⟨rfl,rfl,rfl,rfl,trivial⟩
 rintro q u ⟨hu,hq⟩
 obtain rfl:=hu.symm
 cases q
 rotate_left
 ·have hn:=hq rfl
  have hwd:T.wordsN [] [108,105]= [T.tLi]:=by decide+kernel
  refine zz ?_
  refine zCl rfl (J.of_calls k _ (by decide) hK1 (by omega)) ?_
  rintro _ w2 ⟨⟨q,rfl,ho⟩,hC2⟩
  refine ⟨_,rfl,?_⟩
  cases q
  ·refine zz ?_
   exact zk_ret1 (.inr rfl) rfl rfl ⟨⟨false,rfl,fun h=>by cases h⟩,hX.no hC2⟩
  by_cases h0:0<k.len
  ·refine zz ?_
   exact zk_ret1 (.inr rfl) rfl rfl ⟨⟨_,rfl,fun _=>T.kids_lst (by revert hn;exact (show∀a∈([[111,108],[117,108]]:List (List UInt8)),a∈([[111,108],[117,108]]:List (List UInt8)) by decide) nm) (hwd▸ho.1 rfl)⟩,hX.no hC2⟩
  ·refine zz ?_
   exact zk_ret1 (.inr rfl) rfl rfl ⟨⟨false,rfl,fun h=>by cases h⟩,hX.no hC2⟩
 refine zF rfl ?_
 refine zc_midX (ι:=Bool) (fun q u=>u=w1∧(q=true→nm∈([[98,108,111,99,107,113,117,111,116,101]]:List (List UInt8)))) (fun q=> [(1,.pointer (some ⟨b1,0,none⟩)),(3,.slice AK k.len cK),(7,.string (bs nm)),(61,.bool q)]) ?_ ?_
 ·skip
  refine zR ?_
  refine zEq rfl rfl (fun hc=> ?_) (fun hc=> ?_)
  ·refine zP rfl (zN ?_)
   exact zk_midX true ⟨rfl,fun _=>by rw [hc];decide⟩ ⟨rfl,rfl,rfl,rfl,trivial⟩
  refine zP rfl (zN ?_)
  exact zk_midX false ⟨rfl,fun h=>by cases h⟩ ⟨rfl,rfl,rfl,rfl,trivial⟩
 rintro q u ⟨hu,hq⟩
 obtain rfl:=hu.symm
 cases q
 rotate_left
 ·have hn:=hq rfl
  have hwd:T.wordsN [] [98,108,111,99,107,113,117,111,116,101,32,104,50,32,104,51,32,104,52,32,104,53,32,104,54,32,104,114,32,111,108,32,112,32,112,114,101,32,116,97,98,108,101,32,117,108]=T.tBlk:=by decide+kernel
  refine zz ?_
  refine zCl rfl (J.of_calls k _ (by decide) hK1 (by omega)) ?_
  rintro _ w2 ⟨⟨q,rfl,ho⟩,hC2⟩
  refine ⟨_,rfl,?_⟩
  cases q
  ·refine zz ?_
   exact zk_ret1 (.inr rfl) rfl rfl ⟨⟨false,rfl,fun h=>by cases h⟩,hX.no hC2⟩
  by_cases h0:0<k.len
  ·refine zz ?_
   exact zk_ret1 (.inr rfl) rfl rfl ⟨⟨_,rfl,fun _=>T.kids_bq (by revert hn;exact (show∀a∈([[98,108,111,99,107,113,117,111,116,101]]:List (List UInt8)),a∈([[98,108,111,99,107,113,117,111,116,101]]:List (List UInt8)) by decide) nm) (hwd▸ho.1 rfl)⟩,hX.no hC2⟩
  ·refine zz ?_
   exact zk_ret1 (.inr rfl) rfl rfl ⟨⟨false,rfl,fun h=>by cases h⟩,hX.no hC2⟩
 refine zF rfl ?_
 refine zc_midX (ι:=Bool) (fun q u=>u=w1∧(q=true→nm∈([[116,97,98,108,101]]:List (List UInt8)))) (fun q=> [(1,.pointer (some ⟨b1,0,none⟩)),(3,.slice AK k.len cK),(7,.string (bs nm)),(70,.bool q)]) ?_ ?_
 ·skip
  refine zR ?_
  refine zEq rfl rfl (fun hc=> ?_) (fun hc=> ?_)
  ·refine zP rfl (zN ?_)
   exact zk_midX true ⟨rfl,fun _=>by rw [hc];decide⟩ ⟨rfl,rfl,rfl,rfl,trivial⟩
  refine zP rfl (zN ?_)
  exact zk_midX false ⟨rfl,fun h=>by cases h⟩ ⟨rfl,rfl,rfl,rfl,trivial⟩
 rintro q u ⟨hu,hq⟩
 obtain rfl:=hu.symm
 cases q
 rotate_left
 ·have hn:=hq rfl
  have hwd:T.wordsN [] [116,98,111,100,121]= [T.tBod]:=by decide+kernel
  refine zz ?_
  refine zCl rfl (J.of_calls k _ (by decide) hK1 (by omega)) ?_
  rintro _ w2 ⟨⟨q,rfl,ho⟩,hC2⟩
  refine ⟨_,rfl,?_⟩
  cases q
  ·refine zz ?_
   exact zk_ret1 (.inr rfl) rfl rfl ⟨⟨false,rfl,fun h=>by cases h⟩,hX.no hC2⟩
  by_cases h0:k.len=1
  ·refine zz ?_
   exact zk_ret1 (.inr rfl) rfl rfl ⟨⟨_,rfl,fun _=>T.kids_tab (by revert hn;exact (show∀a∈([[116,97,98,108,101]]:List (List UInt8)),a∈([[116,97,98,108,101]]:List (List UInt8)) by decide) nm) (hwd▸ho.1 rfl)⟩,hX.no hC2⟩
  ·refine zz ?_
   exact zk_ret1 (.inr rfl) rfl rfl ⟨⟨false,rfl,fun h=>by cases h⟩,hX.no hC2⟩
 refine zF rfl ?_
 refine zc_midX (ι:=Bool) (fun q u=>u=w1∧(q=true→nm∈([[116,98,111,100,121]]:List (List UInt8)))) (fun q=> [(1,.pointer (some ⟨b1,0,none⟩)),(3,.slice AK k.len cK),(7,.string (bs nm)),(79,.bool q)]) ?_ ?_
 ·skip
  refine zR ?_
  refine zEq rfl rfl (fun hc=> ?_) (fun hc=> ?_)
  ·refine zP rfl (zN ?_)
   exact zk_midX true ⟨rfl,fun _=>by rw [hc];decide⟩ ⟨rfl,rfl,rfl,rfl,trivial⟩
  refine zP rfl (zN ?_)
  exact zk_midX false ⟨rfl,fun h=>by cases h⟩ ⟨rfl,rfl,rfl,rfl,trivial⟩
 rintro q u ⟨hu,hq⟩
 obtain rfl:=hu.symm
 cases q
 rotate_left
 ·have hn:=hq rfl
  have hwd:T.wordsN [] [116,114]= [T.tTr]:=by decide+kernel
  refine zz ?_
  refine zCl rfl (J.of_calls k _ (by decide) hK1 (by omega)) ?_
  rintro _ w2 ⟨⟨q,rfl,ho⟩,hC2⟩
  refine ⟨_,rfl,?_⟩
  cases q
  ·refine zz ?_
   exact zk_ret1 (.inr rfl) rfl rfl ⟨⟨false,rfl,fun h=>by cases h⟩,hX.no hC2⟩
  by_cases h0:0<k.len
  ·refine zz ?_
   exact zk_ret1 (.inr rfl) rfl rfl ⟨⟨_,rfl,fun _=>T.kids_bod (by revert hn;exact (show∀a∈([[116,98,111,100,121]]:List (List UInt8)),a∈([[116,98,111,100,121]]:List (List UInt8)) by decide) nm) (hwd▸ho.1 rfl)⟩,hX.no hC2⟩
  ·refine zz ?_
   exact zk_ret1 (.inr rfl) rfl rfl ⟨⟨false,rfl,fun h=>by cases h⟩,hX.no hC2⟩
 refine zF rfl ?_
 refine zc_midX (ι:=Bool) (fun q u=>u=w1∧(q=true→nm∈([[116,114]]:List (List UInt8)))) (fun q=> [(1,.pointer (some ⟨b1,0,none⟩)),(3,.slice AK k.len cK),(7,.string (bs nm)),(88,.bool q)]) ?_ ?_
 ·skip
  refine zR ?_
  refine zEq rfl rfl (fun hc=> ?_) (fun hc=> ?_)
  ·refine zP rfl (zN ?_)
   exact zk_midX true ⟨rfl,fun _=>by rw [hc];decide⟩ ⟨rfl,rfl,rfl,rfl,trivial⟩
  refine zP rfl (zN ?_)
  exact zk_midX false ⟨rfl,fun h=>by cases h⟩ ⟨rfl,rfl,rfl,rfl,trivial⟩
 rintro q u ⟨hu,hq⟩
 obtain rfl:=hu.symm
 cases q
 rotate_left
 ·have hn:=hq rfl
  have hwd:T.wordsN [] [116,100,32,116,104]=T.tCell:=by decide+kernel
  refine zz ?_
  refine zCl rfl (J.of_calls k _ (by decide) hK1 (by omega)) ?_
  rintro _ w2 ⟨⟨q,rfl,ho⟩,hC2⟩
  refine ⟨_,rfl,?_⟩
  cases q
  ·refine zz ?_
   exact zk_ret1 (.inr rfl) rfl rfl ⟨⟨false,rfl,fun h=>by cases h⟩,hX.no hC2⟩
  by_cases h0:0<k.len
  ·refine zz ?_
   exact zk_ret1 (.inr rfl) rfl rfl ⟨⟨_,rfl,fun _=>T.kids_tr (by revert hn;exact (show∀a∈([[116,114]]:List (List UInt8)),a∈([[116,114]]:List (List UInt8)) by decide) nm) (hwd▸ho.1 rfl)⟩,hX.no hC2⟩
  ·refine zz ?_
   exact zk_ret1 (.inr rfl) rfl rfl ⟨⟨false,rfl,fun h=>by cases h⟩,hX.no hC2⟩
 refine zF rfl ?_
 refine zc_midX (ι:=Bool) (fun q u=>u=w1∧(q=true→nm∈([[108,105],[116,100],[116,104]]:List (List UInt8)))) (fun q=> [(1,.pointer (some ⟨b1,0,none⟩)),(3,.slice AK k.len cK),(7,.string (bs nm)),(97,.bool q)]) ?_ ?_
 ·skip
  refine zS (zR ?_)
  refine zEq rfl rfl (fun hc=> ?_) (fun hc=> ?_)
  ·refine zz ?_
   exact zk_midX true ⟨rfl,fun _=>by rw [hc];decide⟩ ⟨rfl,rfl,rfl,rfl,trivial⟩
  refine zz ?_
  refine zEq rfl rfl (fun hc=> ?_) (fun hc=> ?_)
  ·refine zz ?_
   exact zk_midX true ⟨rfl,fun _=>by rw [hc];decide⟩ ⟨rfl,rfl,rfl,rfl,trivial⟩
  refine zz ?_
  refine zEq rfl rfl (fun hc=> ?_) (fun hc=> ?_)
  ·refine zP rfl (zN ?_)
   exact zk_midX true ⟨rfl,fun _=>by rw [hc];decide⟩ ⟨rfl,rfl,rfl,rfl,trivial⟩
  refine zP rfl (zN ?_)
  exact zk_midX false ⟨rfl,fun h=>by cases h⟩ ⟨rfl,rfl,rfl,rfl,trivial⟩
 rintro q u ⟨hu,hq⟩
 obtain rfl:=hu.symm
 cases q
 rotate_left
 ·have hn:=hq rfl
  have hwd:T.wordsN [] [98,108,111,99,107,113,117,111,116,101,32,104,50,32,104,51,32,104,52,32,104,53,32,104,54,32,104,114,32,111,108,32,112,32,112,114,101,32,116,97,98,108,101,32,117,108]=T.tBlk:=by decide+kernel
  refine zz ?_
  refine zCl rfl (J.of_calls k _ (by decide) hK1 (by omega)) ?_
  rintro _ w2 ⟨⟨q,rfl,ho⟩,hC2⟩
  refine ⟨_,rfl,?_⟩
  cases q
  rotate_left
  ·refine zz ?_
   exact zk_ret1 (.inr rfl) rfl rfl ⟨⟨_,rfl,fun _=>T.kids_cell (by revert hn;exact (show∀a∈([[108,105],[116,100],[116,104]]:List (List UInt8)),a∈([[108,105],[116,100],[116,104]]:List (List UInt8)) by decide) nm) (.inl (hwd▸ho.1 rfl))⟩,hX.no hC2⟩
  refine zP rfl (zP rfl ?_)
  refine zCl rfl (line_calls k (hK1.no hC2) (by omega)) ?_
  rintro _ w3 ⟨⟨q,rfl,hl⟩,hC3⟩
  refine ⟨_,rfl,?_⟩
  refine zz ?_
  exact zk_ret1 (.inr rfl) rfl rfl ⟨⟨_,rfl,fun h=>T.kids_cell (by revert hn;exact (show∀a∈([[108,105],[116,100],[116,104]]:List (List UInt8)),a∈([[108,105],[116,100],[116,104]]:List (List UInt8)) by decide) nm) (.inr (hl h))⟩,(hX.no hC2).no hC3⟩
 refine zF rfl (zz ?_)
 exact zk_ret1 (.inr rfl) rfl rfl ⟨⟨false,rfl,fun h=>by cases h⟩,hX⟩
open Go Go.Z Go.Proofs T
theorem eq_attr33 {w:World} {a b c d:ByteArray} (k:Nat):(Op.equalIn (k+5) 45 (.agg #[.string a,.string b]) (.agg #[.string c,.string d])).run Tryz.prog w= .ok (decide (a=c) && (decide (b=d) && true)) w:=by
 refine eq_struct Tryz.underlying45 (by kernel_rfl) ?_
 refine eqF_cons (by rfl) (part1 rfl) (part1 rfl) eq_str ?_
 exact eqF_cons (by rfl) (part1 rfl) (part1 rfl) eq_str eqF_nil
theorem AttrS.three {w:World} {v:Value} {l:List At} (h:AttrS false w v l) (hl:l.length≤4): ∃b o c,(0<l.length→v= .slice (some ⟨b,o,none⟩) l.length c)∧
  (0<l.length→w.cell? ⟨b,o+0*2,none⟩=some (.string (bs (l.getD 0 at0).1))∧w.cell? ⟨b,o+0*2+1,none⟩=some (.string (bs (l.getD 0 at0).2)))∧
  (1<l.length→w.cell? ⟨b,o+1*2,none⟩=some (.string (bs (l.getD 1 at0).1))∧w.cell? ⟨b,o+1*2+1,none⟩=some (.string (bs (l.getD 1 at0).2)))∧
  (2<l.length→w.cell? ⟨b,o+2*2,none⟩=some (.string (bs (l.getD 2 at0).1))∧w.cell? ⟨b,o+2*2+1,none⟩=some (.string (bs (l.getD 2 at0).2))):=by
 by_cases h0:0<l.length
 ·obtain ⟨b,o,c,hv,_,hc⟩:=Rx.some h h0
  have key: ∀i,i<l.length→w.cell? ⟨b,o+i*2,none⟩=some (.string (bs (l.getD i at0).1))∧w.cell? ⟨b,o+i*2+1,none⟩=some (.string (bs (l.getD i at0).2)):=fun i hi=>by
   obtain ⟨e1,e2⟩:=encA_get l i hi
   exact ⟨hc _ _ e1,by have:=hc _ _ e2;rwa [←Nat.add_assoc] at this⟩
  exact ⟨b,o,c,fun _=>hv,fun h=>key 0 h,fun h=>key 1 h,fun h=>key 2 h⟩
 ·exact ⟨0,0,0,fun h=>absurd h h0,fun h=>absurd h h0,fun h=>absurd (show 0<l.length by omega) h0,fun h=>absurd (show 0<l.length by omega) h0⟩
theorem attrs17_calls {w:World} {A F K:Value} {nm tx:List UInt8} {la:List At} {k:AT} (hA:AttrS false w A la) (hl:la.length≤4) (hv: ∀a∈la,a.2.length≤28) (hF:isSl F) (hK:TreeAt false w K k) (hk:k.size≤big):
  Calls Tryz.prog 61 [.agg #[.string (bs nm),A,.string (bs tx),F,K]].toArray w fun e w'=>(∃q:Bool,e= .returned (.bool q))∧Chg w w' No:=by
 have hbig:big=1000000000000:=rfl
 have hS:isSl A:=by obtain ⟨A1,c1,h1,_⟩:=hA.form;exact ⟨A1,_,c1,h1⟩
 obtain ⟨A2,m2,c2,rfl⟩:=hF
 obtain ⟨AK,cK,rfl,hcK⟩:=hK.form
 have hF:isSl (.slice A2 m2 c2):=⟨_,_,_,rfl⟩
 have hval: ∀i,i<la.length→(la.getD i at0).2.length≤28:=fun i hi=>hv _ (by
  rw [List.getD_eq_getElem?_getD,List.getElem?_eq_getElem hi];exact List.getElem_mem hi)
 refine zCz 128 Tryz.func61 ?_
 refine zS (zR ?_)
 refine zBx rfl (fun w1 b1 hN1=> ?_)
 have hX:=hN1.chg
 have hK1:=hK.no hX
 obtain ⟨A1,c1,rfl,_⟩:=hA.form
 have hb1:Blk w1 b1 43 [.string (bs nm),.slice A1 la.length c1,.string (bs tx),.slice A2 m2 c2,.slice AK k.len cK]:=hN1.blk
 obtain ⟨b,o,c',g,g0,g1,g2⟩:=AttrS.three (hA.no hX) hl
 have hret: ∀{u:World} (q:Bool),Chg w1 u No→(∃q':Bool,Ending.returned (.bool q)= .returned (.bool q'))∧Chg w u No:=fun q h=>⟨⟨q,rfl⟩,hX.no h⟩
 rcases (by omega:la.length=4∨la.length=0∨la.length=1∨la.length=2∨la.length=3) with h0|h0|h0|h0|h0
 ·rw [h0] at hb1
  repeat' (first|refine za ?_|refine a_cutW rfl rfl rfl fun _ _=> ?_|refine a_catW rfl rfl fun _ _=> ?_|refine a_idxW rfl rfl fun _ _=> ?_|refine a_addW rfl rfl fun _ _=> ?_|refine a_subW rfl rfl fun _ _=> ?_|refine a_min rfl rfl fun _ _ _ _=> ?_|refine a_max rfl rfl fun _ _ _ _=> ?_|refine a_shr rfl rfl fun _ _=> ?_|refine a_and rfl rfl fun _ _=> ?_|refine a_cmp rfl rfl rfl (fun _=> ?_) fun _=> ?_|refine a_eq rfl rfl (fun _=> ?_) fun _=> ?_|refine a_ne rfl rfl (fun _=> ?_) fun _=> ?_)
  all_goals first
   |exact zk_ret1 (.inr rfl) rfl rfl (hret _ (Chg.refl _ _))
   |(
     refine zCl rfl (titled_calls ⟨_,_,_,rfl⟩ hF hK1 (by omega)) ?_
     rintro _ u2 ⟨⟨q,rfl⟩,hC2⟩
     refine ⟨_,rfl,?_⟩
     cases q
     all_goals (repeat' (first|refine za ?_|refine a_cutW rfl rfl rfl fun _ _=> ?_|refine a_catW rfl rfl fun _ _=> ?_|refine a_idxW rfl rfl fun _ _=> ?_|refine a_addW rfl rfl fun _ _=> ?_|refine a_subW rfl rfl fun _ _=> ?_|refine a_min rfl rfl fun _ _ _ _=> ?_|refine a_max rfl rfl fun _ _ _ _=> ?_|refine a_shr rfl rfl fun _ _=> ?_|refine a_and rfl rfl fun _ _=> ?_|refine a_cmp rfl rfl rfl (fun _=> ?_) fun _=> ?_|refine a_eq rfl rfl (fun _=> ?_) fun _=> ?_|refine a_ne rfl rfl (fun _=> ?_) fun _=> ?_))
     all_goals exact zk_ret1 (.inr rfl) rfl rfl (hret _ hC2))
 ·rw [h0] at hb1
  repeat' (first|refine za ?_|refine a_cutW rfl rfl rfl fun _ _=> ?_|refine a_catW rfl rfl fun _ _=> ?_|refine a_idxW rfl rfl fun _ _=> ?_|refine a_addW rfl rfl fun _ _=> ?_|refine a_subW rfl rfl fun _ _=> ?_|refine a_min rfl rfl fun _ _ _ _=> ?_|refine a_max rfl rfl fun _ _ _ _=> ?_|refine a_shr rfl rfl fun _ _=> ?_|refine a_and rfl rfl fun _ _=> ?_|refine a_cmp rfl rfl rfl (fun _=> ?_) fun _=> ?_|refine a_eq rfl rfl (fun _=> ?_) fun _=> ?_|refine a_ne rfl rfl (fun _=> ?_) fun _=> ?_)
  all_goals first
   |exact zk_ret1 (.inr rfl) rfl rfl (hret _ (Chg.refl _ _))
   |(
     refine zCl rfl (titled_calls ⟨_,_,_,rfl⟩ hF hK1 (by omega)) ?_
     rintro _ u2 ⟨⟨q,rfl⟩,hC2⟩
     refine ⟨_,rfl,?_⟩
     cases q
     all_goals (repeat' (first|refine za ?_|refine a_cutW rfl rfl rfl fun _ _=> ?_|refine a_catW rfl rfl fun _ _=> ?_|refine a_idxW rfl rfl fun _ _=> ?_|refine a_addW rfl rfl fun _ _=> ?_|refine a_subW rfl rfl fun _ _=> ?_|refine a_min rfl rfl fun _ _ _ _=> ?_|refine a_max rfl rfl fun _ _ _ _=> ?_|refine a_shr rfl rfl fun _ _=> ?_|refine a_and rfl rfl fun _ _=> ?_|refine a_cmp rfl rfl rfl (fun _=> ?_) fun _=> ?_|refine a_eq rfl rfl (fun _=> ?_) fun _=> ?_|refine a_ne rfl rfl (fun _=> ?_) fun _=> ?_))
     all_goals exact zk_ret1 (.inr rfl) rfl rfl (hret _ hC2))
 ·rw [h0] at hb1
  obtain ⟨g0a,g0b⟩:=g0 (by omega)
  have hg:=g (by omega)
  simp only [Value.slice.injEq] at hg
  obtain ⟨rfl,_,rfl⟩:=hg
  have v0:=hval 0 (by omega)
  repeat' (first|refine za ?_|refine a_cutW rfl rfl rfl fun _ _=> ?_|refine a_catW rfl rfl fun _ _=> ?_|refine a_idxW rfl rfl fun _ _=> ?_|refine a_addW rfl rfl fun _ _=> ?_|refine a_subW rfl rfl fun _ _=> ?_|refine a_min rfl rfl fun _ _ _ _=> ?_|refine a_max rfl rfl fun _ _ _ _=> ?_|refine a_shr rfl rfl fun _ _=> ?_|refine a_and rfl rfl fun _ _=> ?_|refine a_cmp rfl rfl rfl (fun _=> ?_) fun _=> ?_|refine a_eq rfl rfl (fun _=> ?_) fun _=> ?_|refine a_ne rfl rfl (fun _=> ?_) fun _=> ?_)
  all_goals first
   |exact zk_ret1 (.inr rfl) rfl rfl (hret _ (Chg.refl _ _))
   |(
     refine zCl rfl (good_calls _ (show (la.getD 0 at0).2.length≤300 by omega) _) ?_
     rintro _ u2 ⟨⟨q,rfl⟩,hC2⟩
     refine ⟨_,rfl,?_⟩
     cases q
     all_goals (repeat' (first|refine za ?_|refine a_cutW rfl rfl rfl fun _ _=> ?_|refine a_catW rfl rfl fun _ _=> ?_|refine a_idxW rfl rfl fun _ _=> ?_|refine a_addW rfl rfl fun _ _=> ?_|refine a_subW rfl rfl fun _ _=> ?_|refine a_min rfl rfl fun _ _ _ _=> ?_|refine a_max rfl rfl fun _ _ _ _=> ?_|refine a_shr rfl rfl fun _ _=> ?_|refine a_and rfl rfl fun _ _=> ?_|refine a_cmp rfl rfl rfl (fun _=> ?_) fun _=> ?_|refine a_eq rfl rfl (fun _=> ?_) fun _=> ?_|refine a_ne rfl rfl (fun _=> ?_) fun _=> ?_))
     all_goals exact zk_ret1 (.inr rfl) rfl rfl (hret _ hC2))
   |(
     refine zCl rfl (titled_calls ⟨_,_,_,rfl⟩ hF hK1 (by omega)) ?_
     rintro _ u2 ⟨⟨q,rfl⟩,hC2⟩
     refine ⟨_,rfl,?_⟩
     have k0a:=cell_keep hC2 g0a
     have k0b:=cell_keep hC2 g0b
     cases q
     all_goals (repeat' (first|refine za ?_|refine a_cutW rfl rfl rfl fun _ _=> ?_|refine a_catW rfl rfl fun _ _=> ?_|refine a_idxW rfl rfl fun _ _=> ?_|refine a_addW rfl rfl fun _ _=> ?_|refine a_subW rfl rfl fun _ _=> ?_|refine a_min rfl rfl fun _ _ _ _=> ?_|refine a_max rfl rfl fun _ _ _ _=> ?_|refine a_shr rfl rfl fun _ _=> ?_|refine a_and rfl rfl fun _ _=> ?_|refine a_cmp rfl rfl rfl (fun _=> ?_) fun _=> ?_|refine a_eq rfl rfl (fun _=> ?_) fun _=> ?_|refine a_ne rfl rfl (fun _=> ?_) fun _=> ?_))
     all_goals first
      |exact zk_ret1 (.inr rfl) rfl rfl (hret _ hC2)
      |(
       refine z_loadA (by rfl) (want_L rfl) (by decide) rfl (agg2 k0a k0b (by omega)) ?_
       repeat' (first|refine za ?_|refine a_cutW rfl rfl rfl fun _ _=> ?_|refine a_catW rfl rfl fun _ _=> ?_|refine a_idxW rfl rfl fun _ _=> ?_|refine a_addW rfl rfl fun _ _=> ?_|refine a_subW rfl rfl fun _ _=> ?_|refine a_min rfl rfl fun _ _ _ _=> ?_|refine a_max rfl rfl fun _ _ _ _=> ?_|refine a_shr rfl rfl fun _ _=> ?_|refine a_and rfl rfl fun _ _=> ?_|refine a_cmp rfl rfl rfl (fun _=> ?_) fun _=> ?_|refine a_eq rfl rfl (fun _=> ?_) fun _=> ?_|refine a_ne rfl rfl (fun _=> ?_) fun _=> ?_)
       refine z_buildE #[.string (bs [114,111,108,101]),.string (bs [112,114,101,115,101,110,116,97,116,105,111,110])] (want_L rfl) (by decide) rfl (by kernel_rfl) ?_
       refine zl_run (want_L rfl) rfl (by decide) (r_eqA rfl rfl (by kernel_rfl) (fun d=>eq_attr33 d)) ?_
       repeat' (first|refine za ?_|refine a_cutW rfl rfl rfl fun _ _=> ?_|refine a_catW rfl rfl fun _ _=> ?_|refine a_idxW rfl rfl fun _ _=> ?_|refine a_addW rfl rfl fun _ _=> ?_|refine a_subW rfl rfl fun _ _=> ?_|refine a_min rfl rfl fun _ _ _ _=> ?_|refine a_max rfl rfl fun _ _ _ _=> ?_|refine a_shr rfl rfl fun _ _=> ?_|refine a_and rfl rfl fun _ _=> ?_|refine a_cmp rfl rfl rfl (fun _=> ?_) fun _=> ?_|refine a_eq rfl rfl (fun _=> ?_) fun _=> ?_|refine a_ne rfl rfl (fun _=> ?_) fun _=> ?_)
       all_goals exact zk_ret1 (.inr rfl) rfl rfl (hret _ hC2)))
 ·rw [h0] at hb1
  obtain ⟨g0a,g0b⟩:=g0 (by omega)
  have hg:=g (by omega)
  simp only [Value.slice.injEq] at hg
  obtain ⟨rfl,_,rfl⟩:=hg
  have v0:=hval 0 (by omega)
  obtain ⟨g1a,g1b⟩:=g1 (by omega)
  have v1:=hval 1 (by omega)
  repeat' (first|refine za ?_|refine a_cutW rfl rfl rfl fun _ _=> ?_|refine a_catW rfl rfl fun _ _=> ?_|refine a_idxW rfl rfl fun _ _=> ?_|refine a_addW rfl rfl fun _ _=> ?_|refine a_subW rfl rfl fun _ _=> ?_|refine a_min rfl rfl fun _ _ _ _=> ?_|refine a_max rfl rfl fun _ _ _ _=> ?_|refine a_shr rfl rfl fun _ _=> ?_|refine a_and rfl rfl fun _ _=> ?_|refine a_cmp rfl rfl rfl (fun _=> ?_) fun _=> ?_|refine a_eq rfl rfl (fun _=> ?_) fun _=> ?_|refine a_ne rfl rfl (fun _=> ?_) fun _=> ?_)
  all_goals first
   |exact zk_ret1 (.inr rfl) rfl rfl (hret _ (Chg.refl _ _))
   |(
     refine zCl rfl (wholeV_calls _ (show (la.getD 0 at0).2.length≤1000000 by omega)) ?_
     rintro _ u1 ⟨⟨q,rfl,_⟩,hu1⟩
     obtain rfl:=hu1.symm
     refine ⟨_,rfl,?_⟩
     cases q
     all_goals (repeat' (first|refine za ?_|refine a_cutW rfl rfl rfl fun _ _=> ?_|refine a_catW rfl rfl fun _ _=> ?_|refine a_idxW rfl rfl fun _ _=> ?_|refine a_addW rfl rfl fun _ _=> ?_|refine a_subW rfl rfl fun _ _=> ?_|refine a_min rfl rfl fun _ _ _ _=> ?_|refine a_max rfl rfl fun _ _ _ _=> ?_|refine a_shr rfl rfl fun _ _=> ?_|refine a_and rfl rfl fun _ _=> ?_|refine a_cmp rfl rfl rfl (fun _=> ?_) fun _=> ?_|refine a_eq rfl rfl (fun _=> ?_) fun _=> ?_|refine a_ne rfl rfl (fun _=> ?_) fun _=> ?_))
     all_goals first
      |exact zk_ret1 (.inr rfl) rfl rfl (hret _ (Chg.refl _ _))
      |(
       refine zCl rfl (good_calls _ (show (la.getD 1 at0).2.length≤300 by omega) _) ?_
       rintro _ u2 ⟨⟨q,rfl⟩,hC2⟩
       refine ⟨_,rfl,?_⟩
       cases q
       all_goals (repeat' (first|refine za ?_|refine a_cutW rfl rfl rfl fun _ _=> ?_|refine a_catW rfl rfl fun _ _=> ?_|refine a_idxW rfl rfl fun _ _=> ?_|refine a_addW rfl rfl fun _ _=> ?_|refine a_subW rfl rfl fun _ _=> ?_|refine a_min rfl rfl fun _ _ _ _=> ?_|refine a_max rfl rfl fun _ _ _ _=> ?_|refine a_shr rfl rfl fun _ _=> ?_|refine a_and rfl rfl fun _ _=> ?_|refine a_cmp rfl rfl rfl (fun _=> ?_) fun _=> ?_|refine a_eq rfl rfl (fun _=> ?_) fun _=> ?_|refine a_ne rfl rfl (fun _=> ?_) fun _=> ?_))
       all_goals first
        |exact zk_ret1 (.inr rfl) rfl rfl (hret _ hC2)))
   |(
     refine zCl rfl (titled_calls ⟨_,_,_,rfl⟩ hF hK1 (by omega)) ?_
     rintro _ u2 ⟨⟨q,rfl⟩,hC2⟩
     refine ⟨_,rfl,?_⟩
     have k0a:=cell_keep hC2 g0a
     have k0b:=cell_keep hC2 g0b
     cases q
     all_goals (repeat' (first|refine za ?_|refine a_cutW rfl rfl rfl fun _ _=> ?_|refine a_catW rfl rfl fun _ _=> ?_|refine a_idxW rfl rfl fun _ _=> ?_|refine a_addW rfl rfl fun _ _=> ?_|refine a_subW rfl rfl fun _ _=> ?_|refine a_min rfl rfl fun _ _ _ _=> ?_|refine a_max rfl rfl fun _ _ _ _=> ?_|refine a_shr rfl rfl fun _ _=> ?_|refine a_and rfl rfl fun _ _=> ?_|refine a_cmp rfl rfl rfl (fun _=> ?_) fun _=> ?_|refine a_eq rfl rfl (fun _=> ?_) fun _=> ?_|refine a_ne rfl rfl (fun _=> ?_) fun _=> ?_))
     all_goals first
      |exact zk_ret1 (.inr rfl) rfl rfl (hret _ hC2)
      |(
       refine z_loadA (by rfl) (want_L rfl) (by decide) rfl (agg2 k0a k0b (by omega)) ?_
       repeat' (first|refine za ?_|refine a_cutW rfl rfl rfl fun _ _=> ?_|refine a_catW rfl rfl fun _ _=> ?_|refine a_idxW rfl rfl fun _ _=> ?_|refine a_addW rfl rfl fun _ _=> ?_|refine a_subW rfl rfl fun _ _=> ?_|refine a_min rfl rfl fun _ _ _ _=> ?_|refine a_max rfl rfl fun _ _ _ _=> ?_|refine a_shr rfl rfl fun _ _=> ?_|refine a_and rfl rfl fun _ _=> ?_|refine a_cmp rfl rfl rfl (fun _=> ?_) fun _=> ?_|refine a_eq rfl rfl (fun _=> ?_) fun _=> ?_|refine a_ne rfl rfl (fun _=> ?_) fun _=> ?_)
       refine z_buildE #[.string (bs [114,111,108,101]),.string (bs [112,114,101,115,101,110,116,97,116,105,111,110])] (want_L rfl) (by decide) rfl (by kernel_rfl) ?_
       refine zl_run (want_L rfl) rfl (by decide) (r_eqA rfl rfl (by kernel_rfl) (fun d=>eq_attr33 d)) ?_
       repeat' (first|refine za ?_|refine a_cutW rfl rfl rfl fun _ _=> ?_|refine a_catW rfl rfl fun _ _=> ?_|refine a_idxW rfl rfl fun _ _=> ?_|refine a_addW rfl rfl fun _ _=> ?_|refine a_subW rfl rfl fun _ _=> ?_|refine a_min rfl rfl fun _ _ _ _=> ?_|refine a_max rfl rfl fun _ _ _ _=> ?_|refine a_shr rfl rfl fun _ _=> ?_|refine a_and rfl rfl fun _ _=> ?_|refine a_cmp rfl rfl rfl (fun _=> ?_) fun _=> ?_|refine a_eq rfl rfl (fun _=> ?_) fun _=> ?_|refine a_ne rfl rfl (fun _=> ?_) fun _=> ?_)
       all_goals exact zk_ret1 (.inr rfl) rfl rfl (hret _ hC2)))
 ·rw [h0] at hb1
  obtain ⟨g0a,g0b⟩:=g0 (by omega)
  have hg:=g (by omega)
  simp only [Value.slice.injEq] at hg
  obtain ⟨rfl,_,rfl⟩:=hg
  have v0:=hval 0 (by omega)
  obtain ⟨g1a,g1b⟩:=g1 (by omega)
  have v1:=hval 1 (by omega)
  obtain ⟨g2a,g2b⟩:=g2 (by omega)
  have v2:=hval 2 (by omega)
  repeat' (first|refine za ?_|refine a_cutW rfl rfl rfl fun _ _=> ?_|refine a_catW rfl rfl fun _ _=> ?_|refine a_idxW rfl rfl fun _ _=> ?_|refine a_addW rfl rfl fun _ _=> ?_|refine a_subW rfl rfl fun _ _=> ?_|refine a_min rfl rfl fun _ _ _ _=> ?_|refine a_max rfl rfl fun _ _ _ _=> ?_|refine a_shr rfl rfl fun _ _=> ?_|refine a_and rfl rfl fun _ _=> ?_|refine a_cmp rfl rfl rfl (fun _=> ?_) fun _=> ?_|refine a_eq rfl rfl (fun _=> ?_) fun _=> ?_|refine a_ne rfl rfl (fun _=> ?_) fun _=> ?_)
  all_goals first
   |exact zk_ret1 (.inr rfl) rfl rfl (hret _ (Chg.refl _ _))
   |(
     refine zCl rfl (wholeV_calls _ (show (la.getD 0 at0).2.length≤1000000 by omega)) ?_
     rintro _ u1 ⟨⟨q,rfl,_⟩,hu1⟩
     obtain rfl:=hu1.symm
     refine ⟨_,rfl,?_⟩
     cases q
     all_goals (repeat' (first|refine za ?_|refine a_cutW rfl rfl rfl fun _ _=> ?_|refine a_catW rfl rfl fun _ _=> ?_|refine a_idxW rfl rfl fun _ _=> ?_|refine a_addW rfl rfl fun _ _=> ?_|refine a_subW rfl rfl fun _ _=> ?_|refine a_min rfl rfl fun _ _ _ _=> ?_|refine a_max rfl rfl fun _ _ _ _=> ?_|refine a_shr rfl rfl fun _ _=> ?_|refine a_and rfl rfl fun _ _=> ?_|refine a_cmp rfl rfl rfl (fun _=> ?_) fun _=> ?_|refine a_eq rfl rfl (fun _=> ?_) fun _=> ?_|refine a_ne rfl rfl (fun _=> ?_) fun _=> ?_))
     all_goals first
      |exact zk_ret1 (.inr rfl) rfl rfl (hret _ (Chg.refl _ _))
      |(
       refine zCl rfl (good_calls _ (show (la.getD 1 at0).2.length≤300 by omega) _) ?_
       rintro _ u2 ⟨⟨q,rfl⟩,hC2⟩
       refine ⟨_,rfl,?_⟩
       have k2a:=cell_keep hC2 g2a
       have k2b:=cell_keep hC2 g2b
       cases q
       all_goals (repeat' (first|refine za ?_|refine a_cutW rfl rfl rfl fun _ _=> ?_|refine a_catW rfl rfl fun _ _=> ?_|refine a_idxW rfl rfl fun _ _=> ?_|refine a_addW rfl rfl fun _ _=> ?_|refine a_subW rfl rfl fun _ _=> ?_|refine a_min rfl rfl fun _ _ _ _=> ?_|refine a_max rfl rfl fun _ _ _ _=> ?_|refine a_shr rfl rfl fun _ _=> ?_|refine a_and rfl rfl fun _ _=> ?_|refine a_cmp rfl rfl rfl (fun _=> ?_) fun _=> ?_|refine a_eq rfl rfl (fun _=> ?_) fun _=> ?_|refine a_ne rfl rfl (fun _=> ?_) fun _=> ?_))
       all_goals first
        |exact zk_ret1 (.inr rfl) rfl rfl (hret _ hC2)
        |(
          refine zCl rfl (goodSet_calls _ (show (la.getD 2 at0).2.length≤300 by omega)) ?_
          rintro _ u3 ⟨⟨q,rfl⟩,hC3⟩
          refine ⟨_,rfl,?_⟩
          cases q
          all_goals (repeat' (first|refine za ?_|refine a_cutW rfl rfl rfl fun _ _=> ?_|refine a_catW rfl rfl fun _ _=> ?_|refine a_idxW rfl rfl fun _ _=> ?_|refine a_addW rfl rfl fun _ _=> ?_|refine a_subW rfl rfl fun _ _=> ?_|refine a_min rfl rfl fun _ _ _ _=> ?_|refine a_max rfl rfl fun _ _ _ _=> ?_|refine a_shr rfl rfl fun _ _=> ?_|refine a_and rfl rfl fun _ _=> ?_|refine a_cmp rfl rfl rfl (fun _=> ?_) fun _=> ?_|refine a_eq rfl rfl (fun _=> ?_) fun _=> ?_|refine a_ne rfl rfl (fun _=> ?_) fun _=> ?_))
          all_goals exact zk_ret1 (.inr rfl) rfl rfl (hret _ (hC2.no hC3)))))
   |(
     refine zCl rfl (titled_calls ⟨_,_,_,rfl⟩ hF hK1 (by omega)) ?_
     rintro _ u2 ⟨⟨q,rfl⟩,hC2⟩
     refine ⟨_,rfl,?_⟩
     have k0a:=cell_keep hC2 g0a
     have k0b:=cell_keep hC2 g0b
     cases q
     all_goals (repeat' (first|refine za ?_|refine a_cutW rfl rfl rfl fun _ _=> ?_|refine a_catW rfl rfl fun _ _=> ?_|refine a_idxW rfl rfl fun _ _=> ?_|refine a_addW rfl rfl fun _ _=> ?_|refine a_subW rfl rfl fun _ _=> ?_|refine a_min rfl rfl fun _ _ _ _=> ?_|refine a_max rfl rfl fun _ _ _ _=> ?_|refine a_shr rfl rfl fun _ _=> ?_|refine a_and rfl rfl fun _ _=> ?_|refine a_cmp rfl rfl rfl (fun _=> ?_) fun _=> ?_|refine a_eq rfl rfl (fun _=> ?_) fun _=> ?_|refine a_ne rfl rfl (fun _=> ?_) fun _=> ?_))
     all_goals first
      |exact zk_ret1 (.inr rfl) rfl rfl (hret _ hC2)
      |(
       refine z_loadA (by rfl) (want_L rfl) (by decide) rfl (agg2 k0a k0b (by omega)) ?_
       repeat' (first|refine za ?_|refine a_cutW rfl rfl rfl fun _ _=> ?_|refine a_catW rfl rfl fun _ _=> ?_|refine a_idxW rfl rfl fun _ _=> ?_|refine a_addW rfl rfl fun _ _=> ?_|refine a_subW rfl rfl fun _ _=> ?_|refine a_min rfl rfl fun _ _ _ _=> ?_|refine a_max rfl rfl fun _ _ _ _=> ?_|refine a_shr rfl rfl fun _ _=> ?_|refine a_and rfl rfl fun _ _=> ?_|refine a_cmp rfl rfl rfl (fun _=> ?_) fun _=> ?_|refine a_eq rfl rfl (fun _=> ?_) fun _=> ?_|refine a_ne rfl rfl (fun _=> ?_) fun _=> ?_)
       refine z_buildE #[.string (bs [114,111,108,101]),.string (bs [112,114,101,115,101,110,116,97,116,105,111,110])] (want_L rfl) (by decide) rfl (by kernel_rfl) ?_
       refine zl_run (want_L rfl) rfl (by decide) (r_eqA rfl rfl (by kernel_rfl) (fun d=>eq_attr33 d)) ?_
       repeat' (first|refine za ?_|refine a_cutW rfl rfl rfl fun _ _=> ?_|refine a_catW rfl rfl fun _ _=> ?_|refine a_idxW rfl rfl fun _ _=> ?_|refine a_addW rfl rfl fun _ _=> ?_|refine a_subW rfl rfl fun _ _=> ?_|refine a_min rfl rfl fun _ _ _ _=> ?_|refine a_max rfl rfl fun _ _ _ _=> ?_|refine a_shr rfl rfl fun _ _=> ?_|refine a_and rfl rfl fun _ _=> ?_|refine a_cmp rfl rfl rfl (fun _=> ?_) fun _=> ?_|refine a_eq rfl rfl (fun _=> ?_) fun _=> ?_|refine a_ne rfl rfl (fun _=> ?_) fun _=> ?_)
       all_goals exact zk_ret1 (.inr rfl) rfl rfl (hret _ hC2)))
open T (big AT)
def EachT:AT→Prop
 | .nil=>True
 | .cons x k r=>(if x.name= [] then x.text≠ []∧0∉x.text else T.kidsA x.name k∧EachT k)∧EachT r
theorem okT_at: ∀(t:AT) (i:Nat) (x:T.Hd) (k r:AT),t.okT→t.dropN i= .cons x k r→T.HdT x∧k.okT
 | .nil,0,x,k,r,h,he=>by cases he
 | .nil,i+1,x,k,r,h,he=>by cases he
 | .cons _ _ _,0,x,k,r,h,he=>by cases he;exact ⟨h.1,h.2.1⟩
 | .cons _ _ q,i+1,x,k,r,h,he=>okT_at q i x k r h.2.2 he
theorem valT_len: ∀v∈T.lValT,v.length≤28:=by decide+kernel
theorem each_calls: ∀(n:Nat) {w:World} {v:Value} (t:AT),t.size=n→n≤big→t.wt≤big→t.okT→T.TreeAt false w v t→Calls Tryz.prog 35 [v].toArray w fun e w'=>(∃q:Bool,e= .returned (.bool q)∧(q=true→EachT t))∧Chg w w' No:=by
 have hbig:big=1000000000000:=rfl
 intro n
 induction n using Nat.strongRecOn with
 |_ n ih=>
 intro w v t hs hn hwt hok h
 obtain ⟨A,c,rfl,hc⟩:=h.form
 have hls:=t.len_size
 refine zCz 62 Tryz.func35 ?_
 refine zy ?_
 refine zc_loopW (ι:=Nat) (fun i u=> [(0,.slice A t.len c),(3,.int .i64 (i:Nat))]) (fun i u=>i≤t.len∧(EachT (t.dropN i)→EachT t)∧Chg w u No) (fun i u=>t.len - i) 0 ⟨Nat.zero_le _,fun h=>by rw [show t.dropN 0=t by cases t<;>rfl] at h;exact h,Chg.refl _ _⟩ ⟨rfl,rfl,trivial⟩ ?_
 rintro i u ⟨hi,hE,hC⟩
 have hfalse: ∃q:Bool,Ending.returned (.bool false)= .returned (.bool q)∧(q=true→EachT t):=⟨false,rfl,fun h=>by cases h⟩
 by_cases hlt:i<t.len
 rotate_left
 ·obtain rfl:i=t.len:=by omega
  rw [t.drop_len] at hE
  refine zy ?_
  exact zk_ret1 (.inr rfl) rfl rfl ⟨⟨true,rfl,fun _=>hE trivial⟩,hC⟩
 obtain ⟨b',o,c',x,k,r,A',F,K,e1,hv,hN,hA,hF,hK⟩:=(h.no hC).at_ i hlt
 cases hv
 obtain ⟨hxT,hkT⟩:=okT_at t i x k r hok e1
 obtain ⟨hwx,hwk⟩:=J.wt_at e1
 have hnext:(if x.name= [] then x.text≠ []∧0∉x.text else T.kidsA x.name k∧EachT k)→EachT (t.dropN (i+1))→EachT t:=fun h1 h2=>by
  rw [t.drop_succ i x k r e1] at h2
  exact hE (e1▸⟨h1,h2⟩)
 have hsz:=t.drop_size i
 rw [e1] at hsz
 simp only [AT.size] at hsz
 obtain ⟨nm,la,tx⟩:=x
 dsimp only at hA hxT hN hwx hnext
 have hla:la.length≤4:=hxT.1.2.1
 have hlv: ∀a∈la,a.2.length≤28:=fun a ha=>valT_len _ (hxT.1.2.2 a ha).2
 have htx:tx.length≤20:=hxT.2
 obtain ⟨A2,c2,rfl,_⟩:=hA.form
 obtain ⟨A3,m3,c3,rfl⟩:=hF
 obtain ⟨A4,c4,rfl,_⟩:=hK.form
 have hlk:=k.len_size
 refine zy ?_
 refine z_loadA (by rfl) (want_L rfl) (by decide) rfl (hN.agg (by omega)) ?_
 refine zAl (fun u1 b1 hN1=> ?_)
 have hb1:Blk u1 b1 43 [.string ⟨#[]⟩,T.nS,.string ⟨#[]⟩,T.nS,T.nS]:=hN1.blk
 refine z_store (want_L rfl) rfl rfl rfl (by assumption) (by first|exact Nat.le_refl _|simp [Value.cells]) (by simp [Value.cells,Value.oneCell']) (fun u2 hU2=> ?_)
 have hb2:Blk u2 b1 43 [.string (bs nm),.slice A2 la.length c2,.string (bs tx),.slice A3 m3 c3,.slice A4 k.len c4]:=hU2.blk
 have hX2:Chg u u2 No:=hN1.chg.upd hU2 (hN1.ge (Chg.refl _ No))
 have hC2:Chg w u2 No:=hC.no hX2
 have hK2:=hK.no hX2
 have hA2:=hA.no hX2
 have hF2:T.isSl (.slice A3 m3 c3):=⟨_,_,_,rfl⟩
 by_cases hnm:nm= []
 ·by_cases ht0:tx= []
  ·refine zy ?_
   exact zk_ret1 (.inr rfl) rfl rfl ⟨hfalse,hC2⟩
  refine zy ?_
  refine zCl rfl (wholeV_calls tx (by omega)) ?_
  rintro _ u3 ⟨⟨q,rfl,hq⟩,hu3⟩
  obtain rfl:=hu3.symm
  refine ⟨_,rfl,?_⟩
  cases q
  ·refine zy ?_
   exact zk_ret1 (.inr rfl) rfl rfl ⟨hfalse,hC2⟩
  by_cases hz:0<la.length+k.len
  ·refine zy ?_
   exact zk_ret1 (.inr rfl) rfl rfl ⟨hfalse,hC2⟩
  refine zy ?_
  exact zk_loopW (i+1) ⟨by omega,hnext (by rw [if_pos hnm];exact ⟨ht0,hq rfl⟩),hC2⟩ (by omega) ⟨rfl,get_int rfl (by omega),trivial⟩
 ·by_cases ht0:tx= []
  rotate_left
  ·refine zy ?_
   exact zk_ret1 (.inr rfl) rfl rfl ⟨hfalse,hC2⟩
  by_cases hm:0<m3
  ·refine zy ?_
   exact zk_ret1 (.inr rfl) rfl rfl ⟨hfalse,hC2⟩
  refine zy ?_
  refine zCl rfl (attrs17_calls hA2 hla hlv hF2 hK2 (by omega)) ?_
  rintro _ u3 ⟨⟨q,rfl⟩,hC3⟩
  refine ⟨_,rfl,?_⟩
  have hb3:=hb2.no hC3
  have hK3:=hK2.no hC3
  cases q
  ·refine zy ?_
   exact zk_ret1 (.inr rfl) rfl rfl ⟨hfalse,hC2.no hC3⟩
  refine zy ?_
  refine zCl rfl (kids_calls ⟨_,_,_,rfl⟩ hF2 hK3 (by omega)) ?_
  rintro _ u4 ⟨⟨q,rfl,hq4⟩,hC4⟩
  refine ⟨_,rfl,?_⟩
  have hb4:=hb3.no hC4
  have hK4:=hK3.no hC4
  cases q
  ·refine zy ?_
   exact zk_ret1 (.inr rfl) rfl rfl ⟨hfalse,(hC2.no hC3).no hC4⟩
  refine zy ?_
  refine zCl rfl (ih k.size (by omega) k rfl (by omega) (by omega) hkT hK4) ?_
  rintro _ u5 ⟨⟨q,rfl,hq5⟩,hC5⟩
  refine ⟨_,rfl,?_⟩
  cases q
  ·refine zy ?_
   exact zk_ret1 (.inr rfl) rfl rfl ⟨hfalse,((hC2.no hC3).no hC4).no hC5⟩
  refine zy ?_
  exact zk_loopW (i+1) ⟨by omega,hnext (by rw [if_neg hnm];exact ⟨hq4 rfl,hq5 rfl⟩),((hC2.no hC3).no hC4).no hC5⟩ (by omega) ⟨rfl,get_int rfl (by omega),trivial⟩
open T (big AT)
theorem right_calls {w:World} {v:Value} (t:AT) (hs:t.size≤big) (hwt:t.wt≤big) (hok:t.okT) (h:T.TreeAt false w v t):Calls Tryz.prog 14 [v].toArray w fun e w'=>(∃q:Bool,e= .returned (.bool q)∧(q=true→T.ofA T.tBlk t∧EachT t))∧Chg w w' No:=by
 have hbig:big=1000000000000:=rfl
 obtain ⟨A,c,rfl,hc⟩:=h.form
 have hfalse: ∃q:Bool,Ending.returned (.bool false)= .returned (.bool q)∧(q=true→T.ofA T.tBlk t∧EachT t):=⟨false,rfl,fun h=>by cases h⟩
 refine zCz 14 Tryz.func14 ?_
 refine zz ?_
 refine zCl rfl (J.of_calls t _ (by decide) h (by omega)) ?_
 rintro _ w1 ⟨⟨q,rfl,hq⟩,hC1⟩
 refine ⟨_,rfl,?_⟩
 have hwd:T.wordsN [] [98,108,111,99,107,113,117,111,116,101,32,104,50,32,104,51,32,104,52,32,104,53,32,104,54,32,104,114,32,111,108,32,112,32,112,114,101,32,116,97,98,108,101,32,117,108]=T.tBlk:=by decide+kernel
 cases q
 ·refine zz ?_
  exact zk_ret1 (.inr rfl) rfl rfl ⟨hfalse,hC1⟩
 refine zP rfl (zP rfl ?_)
 refine zCl rfl (J.deep_calls t.size t (Nat.le_refl _) (by omega) (h.no hC1)) ?_
 rintro _ w2 ⟨⟨d,rfl,hd⟩,hC2⟩
 refine ⟨_,rfl,?_⟩
 by_cases h40:d≤40
 rotate_left
 ·refine zz ?_
  exact zk_ret1 (.inr rfl) rfl rfl ⟨hfalse,hC1.no hC2⟩
 refine zz ?_
 refine zCl rfl (each_calls t.size t rfl (by omega) hwt hok ((h.no hC1).no hC2)) ?_
 rintro _ w3 ⟨⟨q,rfl,hE⟩,hC3⟩
 refine ⟨_,rfl,?_⟩
 refine zz ?_
 exact zk_ret1 (.inr rfl) rfl rfl ⟨⟨_,rfl,fun hh=>⟨hwd▸hq.1 rfl,hE hh⟩⟩,(hC1.no hC2).no hC3⟩
theorem AtOk_T {l:List T.At} (h:T.AtsT l):T.AtOk l:=by
 refine ⟨fun a ha=> ?_,h.1,by have:=h.2.1;omega⟩
 obtain ⟨g1,g2⟩:=h.2.2 a ha
 have k1: ∀k∈T.lKeyT,k≠ []∧ ∀c∈k,T.lowC c:=by decide+kernel
 have k2: ∀v∈T.lValT,0∉v∧v.length≤1000:=by decide+kernel
 obtain ⟨e1,e2⟩:=k1 _ g1
 obtain ⟨e3,e4⟩:=k2 _ g2
 exact ⟨e1,e2,e3,by omega⟩
theorem SA_T: ∀a:AT,a.okT→EachT a→D.SA a
 | .nil,_,_=>trivial
 | .cons x k r,⟨h1,h2,h3⟩,⟨s1,s2⟩=>by
  refine ⟨?_,SA_T r h3 s2⟩
  by_cases hx:x.name= []
  ·rw [if_pos hx] at s1 ⊢
   exact ⟨s1.1,s1.2,by have:=h1.2;omega⟩
  ·rw [if_neg hx] at s1 ⊢
   exact ⟨AtOk_T h1.1,s1.1,SA_T k h2 s1.2⟩
end Go.Proofs.YtbcmiijollpgeaaGreat.V
namespace Go.Proofs.YtbcmiijollpgeaaGreat.D
open Go Go.Z Go.Proofs
theorem few_bare: ∀a:T.AT,SA a→FewT (bareN a)
 | .nil,_=>trivial
 | .cons x k r,⟨h1,h2⟩=>by
  have ih:=few_bare r h2
  by_cases hx:x.name= []
  ·rw [bare_text hx]
   exact ⟨Nat.zero_le _,trivial,ih⟩
  ·rw [bare_elem hx]
   rw [if_neg hx] at h1
   refine ⟨?_,few_bare k h1.2.2,ih⟩
   show (encT x.attrs).length≤_
   rw [encT_len]
   have:=h1.1.ln
   omega
theorem bare_size: ∀a:T.AT,(bareN a).size≤a.size
 | .nil=>Nat.le_refl _
 | .cons x k r=>by
  have ih:=bare_size r
  by_cases hx:x.name= []
  ·rw [bare_text hx]
   simp only [NT.size,T.AT.size];omega
  ·have:=bare_size k
   rw [bare_elem hx]
   simp only [NT.size,T.AT.size];omega
theorem size_wt: ∀a:T.AT,10*a.size≤a.wt
 | .nil=>Nat.le_refl _
 | .cons x k r=>by
  have h1:=size_wt k
  have h2:=size_wt r
  simp only [T.AT.size,T.AT.wt];omega
end Go.Proofs.YtbcmiijollpgeaaGreat.D
namespace Go.Proofs.YtbcmiijollpgeaaGreat.V
open Go Go.Z Go.Proofs
open T (big AT)
theorem PrintTurned_walk (a1:Option Addr) (l1 c1:Nat) (z1:List Int) (a2:Option Addr) (l2 c2:Nat) (z2:List Int) (w:World) (h1:T.IsRow .i64 w a1 l1 c1 z1) (h2:T.IsRow .i64 w a2 l2 c2 z2):
  Calls Tryz.prog 4 #[.slice a1 l1 c1,.slice a2 l2 c2] w fun e w'=>e= .returned (.bool true)∧RowKit.Below w.heap.size w w':=by
 show Calls Tryz.prog 4 [Value.slice a1 l1 c1,.slice a2 l2 c2].toArray w _
 have hbig:T.big=1000000000000:=rfl
 refine zCz 40 Tryz.func4 ?_
 refine zz ?_
 refine zCr rfl T.known_calls fun w1 hC1=> ?_
 have h1':=T.IsRow.no h1 hC1
 refine zz ?_
 refine zCl rfl (T.made_calls h1') ?_
 rintro _ w2 ⟨va,ta,rfl,hta,hoka,hwa,_,hC2⟩
 refine ⟨_,rfl,?_⟩
 have hX2:=hC1.no hC2
 obtain ⟨Aa,ca,rfl,_⟩:=hta.form
 refine zP rfl ?_
 refine z_buildE #[.slice a2 l2 c2,.int .i64 0] (want_L rfl) (by decide) rfl (by kernel_rfl) ?_
 refine zBx rfl (fun w3 b3 hN3=> ?_)
 have hb3:Blk w3 b3 36 [.slice a2 l2 c2,.int .i64 ((0:Nat):Int)]:=hN3.blk
 have hT3:T.Tp w3 w2.heap.size b3:=⟨⟨w2,a2,l2,c2,z2,0,Nat.le_refl _,hb3,T.IsRow.no h2 hX2,hN3.chg.mono (fun _ _ h=>h.elim),Nat.zero_le _⟩,Nat.le_of_eq hN3.at_.symm⟩
 refine zCl rfl (T.turn_calls ta hT3 (hta.no hN3.chg) hoka.1 (by omega)) ?_
 rintro _ w4 ⟨vt,t,rfl,ht,hwt,hokT,hdp,hT4,hC4⟩
 refine ⟨_,rfl,?_⟩
 have hX4:Chg w w4 No:=(hX2.no hN3.chg).trans hC4 (fun k hk he=>by have:=hN3.at_;have:=hX2.size;omega)
 obtain ⟨At,ct,rfl,_⟩:=ht.form
 refine zz ?_
 refine zCr rfl (T.text_calls ht.weak (by omega)) fun w5 hC5=> ?_
 have hsw:=D.size_wt t
 have hD:=hoka.2.2.2
 refine zz ?_
 refine zCl rfl (right_calls t (by omega) (by omega) hokT (ht.no hC5).weak) ?_
 rintro _ w6 ⟨⟨q,rfl,hq⟩,hC6⟩
 refine ⟨_,rfl,?_⟩
 have hX6:=(hX4.no hC5).no hC6
 cases q
 ·refine zz ?_
  exact zk_ret1 (.inr rfl) rfl rfl ⟨rfl,hX6.below⟩
 obtain ⟨hO,hE⟩:=hq rfl
 have hSA:=SA_T t hokT hE
 by_cases hl:t.text.length≤1048576
 rotate_left
 ·refine zz ?_
  exact zk_ret1 (.inr rfl) rfl rfl ⟨rfl,hX6.below⟩
 refine zz ?_
 refine zCl rfl (D.parseA_calls t hO hSA (by omega) hl) ?_
 rintro _ w7 ⟨vl,rfl,hT1,hz1,hC7⟩
 refine ⟨_,rfl,?_⟩
 obtain ⟨Al,cl,rfl,_⟩:=hT1.form
 have hF:=D.few_bare t hSA
 refine zz ?_
 refine zCl rfl (D.bareC_calls t.size (((ht.no hC5).no hC6).no hC7) (Nat.le_refl _) (by omega)) ?_
 rintro _ w8 ⟨vb,rfl,hB,hC8⟩
 refine ⟨_,rfl,?_⟩
 obtain ⟨Ab,cb,rfl,_⟩:=hB.at'.form
 refine zCl rfl (D.sameR_calls (D.bareN t).size (hT1.no hC8) hB.at' hF hF (Nat.le_refl _) hz1) ?_
 rintro _ w9 ⟨q,rfl,hq9,hC9⟩
 refine ⟨_,rfl,?_⟩
 obtain rfl:q=true:=hq9.2 rfl
 refine zz ?_
 exact zk_ret1 (.inr rfl) rfl rfl ⟨rfl,(((hX6.no hC7).no hC8).no hC9).below⟩
end Go.Proofs.YtbcmiijollpgeaaGreat.V
