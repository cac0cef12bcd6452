import Derived.Test.YtbcmiijollpgeaaGreatWE
set_option maxHeartbeats 32000000
set_option maxRecDepth 100000
set_option linter.unusedVariables false
set_option linter.unusedSimpArgs false
namespace Go.Proofs.YtbcmiijollpgeaaGreat.T
open Go Go.Z Go.Proofs
theorem take_step (l:List UInt8) (i:Nat) (h:i<l.length):l.take i++(l.drop i).take (i+1 - i)=l.take (i+1):=by
 rw [show i+1 - i=1 by omega,List.take_one,List.head?_drop,List.take_add_one]
theorem clear_calls {w:World} (l:List UInt8) (hl:l.length≤big) (h0:0∉l):Calls Tryz.prog 70 [.string (bs l)].toArray w fun e w'=>e= .returned (.string (bs l))∧w'=w:=by
 have hbig:big=1000000000000:=rfl
 refine zCz 25 Tryz.func70 ?_
 refine zz ?_
 refine zc_loopW (ι:=Nat) (fun i u=> [(0,.string (bs l)),(3,.string (bs (l.take i))),(4,.int .i64 (i:Nat))]) (fun i u=>i≤l.length∧u=w) (fun i u=>l.length - i) 0 ⟨Nat.zero_le _,rfl⟩ ⟨rfl,rfl,rfl,trivial⟩ ?_
 rintro i u ⟨hi,hu⟩
 obtain rfl:=hu.symm
 by_cases hlt:i<l.length
 ·have hz:Z.byteL l i≠0:=fun h=>h0 (by
   have e:l[i]=0:=by
    have:l[i].toNat=(0:UInt8).toNat:=by rw [←show Z.byteL l i=l[i].toNat by unfold Z.byteL;rw [List.getD_eq_getElem?_getD,List.getElem?_eq_getElem hlt];rfl];exact h
    exact UInt8.toNat_inj.1 this
   rw [←e];exact List.getElem_mem hlt)
  have hlk:(l.take i).length=i:=by rw [List.length_take];omega
  refine zz ?_
  refine z_cutN i (i+1) (want_L rfl) (by decide) rfl rfl rfl rfl rfl (by omega) (by omega) ?_
  have h1:((l.drop i).take (i+1 - i)).length=1:=by rw [List.length_take,List.length_drop];omega
  refine z_catL (want_L rfl) (by decide) rfl rfl (by omega) ?_
  rw [take_step l i hlt]
  refine zz ?_
  exact zk_loopW (i+1) ⟨by omega,rfl⟩ (by omega) ⟨rfl,rfl,get_int rfl (by omega),trivial⟩
 ·obtain rfl:i=l.length:=by omega
  rw [List.take_length]
  refine zz ?_
  exact zk_ret1 (.inr rfl) rfl rfl ⟨rfl,rfl⟩
theorem drop0_calls {w:World} (l:List UInt8) (hl:l.length≤big) (h0:0∉l):Calls Tryz.prog 126 [.string (bs l)].toArray w fun e w'=>e= .returned (.string (bs l))∧w'=w:=by
 have hbig:big=1000000000000:=rfl
 refine zCz 23 Tryz.func126 ?_
 refine zz ?_
 refine zc_loopW (ι:=Nat) (fun i u=> [(0,.string (bs l)),(3,.string (bs (l.take i))),(4,.int .i64 (i:Nat))]) (fun i u=>i≤l.length∧u=w) (fun i u=>l.length - i) 0 ⟨Nat.zero_le _,rfl⟩ ⟨rfl,rfl,rfl,trivial⟩ ?_
 rintro i u ⟨hi,hu⟩
 obtain rfl:=hu.symm
 by_cases hlt:i<l.length
 ·have hz:Z.byteL l i≠0:=fun h=>h0 (by
   have e:l[i]=0:=by
    have:l[i].toNat=(0:UInt8).toNat:=by rw [←show Z.byteL l i=l[i].toNat by unfold Z.byteL;rw [List.getD_eq_getElem?_getD,List.getElem?_eq_getElem hlt];rfl];exact h
    exact UInt8.toNat_inj.1 this
   rw [←e];exact List.getElem_mem hlt)
  have hlk:(l.take i).length=i:=by rw [List.length_take];omega
  refine zz ?_
  refine z_cutN i (i+1) (want_L rfl) (by decide) rfl rfl rfl rfl rfl (by omega) (by omega) ?_
  have h1:((l.drop i).take (i+1 - i)).length=1:=by rw [List.length_take,List.length_drop];omega
  refine z_catL (want_L rfl) (by decide) rfl rfl (by omega) ?_
  rw [take_step l i hlt]
  refine zz ?_
  exact zk_loopW (i+1) ⟨by omega,rfl⟩ (by omega) ⟨rfl,rfl,get_int rfl (by omega),trivial⟩
 ·obtain rfl:i=l.length:=by omega
  rw [List.take_length]
  refine zz ?_
  exact zk_ret1 (.inr rfl) rfl rfl ⟨rfl,rfl⟩
theorem fold_calls {w:World} (l:List UInt8) (hl:l.length≤big) (hup: ∀j,j<l.length→ ¬(65≤(l.getD j 0).toNat∧(l.getD j 0).toNat≤90)):Calls Tryz.prog 76 [.string (bs l)].toArray w fun e w'=>e= .returned (.string (bs l))∧Chg w w' No:=by
 have hbig:big=1000000000000:=rfl
 refine zCz 35 Tryz.func76 ?_
 refine zz ?_
 refine z_convSB (want_L rfl) (by decide) rfl (fun w1 b c z hb hC hB hc=> ?_)
 refine zz ?_
 refine zc_loopW (ι:=Nat) (fun q u=> [(3,.slice (some ⟨b,0,none⟩) l.length c),(4,.int .i64 (q:Nat))]) (fun q u=>q≤l.length∧Chg w u No∧BlkB u b 5 (cellsB l++z)) (fun q u=>l.length - q) 0 ⟨Nat.zero_le _,hC,hB⟩ ?_ ?_
 ·exact ⟨rfl,rfl,trivial⟩
 rintro k u ⟨hk,hC,hB⟩
 by_cases hkl:k<l.length
 ·have hcell:u.cell? ⟨b,k,none⟩=some (.int .u8 ((l.getD k 0).toNat:Nat)):=by
   rw [hB.cell,List.getElem?_append_left (by simp [cellsB];exact hkl),cellsB_at _ k hkl]
  have hu:=hup k hkl
  obtain ⟨cc,hcc⟩: ∃x,x=(l.getD k 0).toNat:=⟨_,rfl⟩
  rw [←hcc] at hcell hu
  by_cases h65:65≤cc
  ·refine zz ?_
   refine zL1 rfl (cell_at hcell (by omega)) (zz ?_)
   refine zL1 rfl (cell_at hcell (by omega)) (zz ?_)
   exact zk_loopW (k+1) ⟨by omega,hC,hB⟩ (by omega) ⟨rfl,get_int rfl (by omega),trivial⟩
  ·refine zz ?_
   refine zL1 rfl (cell_at hcell (by omega)) (zz ?_)
   exact zk_loopW (k+1) ⟨by omega,hC,hB⟩ (by omega) ⟨rfl,get_int rfl (by omega),trivial⟩
 ·have hrb:=hB.rb (c:=c) (by omega)
  refine zz ?_
  refine z_convBS (want_L rfl) (by decide) rfl hrb ?_
  refine zz ?_
  exact zk_ret1 (.inr rfl) rfl rfl ⟨rfl,hC⟩
theorem blanks_calls {w:World} (l:List UInt8) (p k:Nat) (hl:l.length≤big) (hpk:p≤k) (hk:k≤l.length) (hb: ∀j,p≤j→j<k→blankN (Z.byteL l j)=true) (he:k<l.length→blankN (Z.byteL l k)=false):
  Calls Tryz.prog 143 [.string (bs l),.int .i64 p].toArray w fun e w'=>e= .returned (.int .i64 k)∧w'=w:=by
 have hbig:big=1000000000000:=rfl
 refine zCz 18 Tryz.func143 ?_
 refine zz ?_
 refine zc_loopW (ι:=Nat) (fun i u=> [(0,.string (bs l)),(1,.int .i64 (i:Nat))]) (fun i u=>p≤i∧i≤k∧u=w) (fun i u=>k - i) p ⟨Nat.le_refl _,hpk,rfl⟩ ⟨rfl,rfl,trivial⟩ ?_
 rintro i u ⟨hpi,hi,hu⟩
 obtain rfl:=hu.symm
 by_cases hlt:i<l.length
 ·refine zz ?_
  refine zCp rfl (blankR_calls (Z.byteL l i)) ?_
  by_cases hik:i<k
  ·rw [hb i hpi hik]
   refine zz ?_
   exact zk_loopW (i+1) ⟨by omega,by omega,rfl⟩ (by omega) ⟨rfl,get_int rfl (by omega),trivial⟩
  ·obtain rfl:i=k:=by omega
   rw [he hlt]
   refine zz ?_
   exact zk_ret1 (.inr rfl) rfl rfl ⟨rfl,rfl⟩
 ·obtain rfl:i=k:=by omega
  refine zz ?_
  exact zk_ret1 (.inr rfl) rfl rfl ⟨rfl,rfl⟩
theorem inR_calls {w:World} {v:Value} (l:List (List UInt8)) (x:List UInt8) (h:RdS w 9 1 v l.length (cellsS l)) (hl:l.length≤100000):Calls Tryz.prog 97 [v,.string (bs x)].toArray w fun e w'=>e= .returned (.bool (decide (x∈l)))∧w'=w:=by
 obtain ⟨A,c,rfl,hc⟩:=h.form
 refine zCz 18 Tryz.func97 ?_
 refine zz ?_
 refine zc_loopW (ι:=Nat) (fun i u=> [(0,.slice A l.length c),(1,.string (bs x)),(5,.int .i64 i)]) (fun i u=>i≤l.length∧(∀j,j<i→l.getD j []≠x)∧u=w) (fun i u=>l.length - i) 0 ⟨Nat.zero_le _,fun j hj=>absurd hj (Nat.not_lt_zero j),rfl⟩ ?_ ?_
 ·exact ⟨rfl,rfl,rfl,trivial⟩
 rintro i u ⟨hi,hno,hu⟩
 obtain rfl:=hu.symm
 by_cases hlt:i<l.length
 ·obtain ⟨b,o,c',hv,_,hcell⟩:=h.some (by omega)
  cases hv
  have hc0:=hcell (i*1) _ (by rw [Nat.mul_one];exact cellsS_at l i hlt)
  refine zz ?_
  refine zEq rfl rfl (fun hc=> ?_) (fun hc=> ?_)
  ·refine zz ?_
   exact zk_ret1 (.inr rfl) rfl rfl ⟨by rw [decide_eq_true (by rw [←hc];exact getD_mem l i hlt)],rfl⟩
  ·refine zz ?_
   exact zk_loopW (i+1) ⟨by omega,fun j hj=>by
    rcases Nat.lt_or_ge j i with h1|h1
    ·exact hno j h1
    ·obtain rfl:j=i:=by omega
     exact hc,rfl⟩ (by omega) ⟨rfl,rfl,get_int rfl (by simp),trivial⟩
 ·obtain rfl:i=l.length:=by omega
  refine zz ?_
  refine zk_ret1 (.inr rfl) rfl rfl ⟨?_,rfl⟩
  rw [decide_eq_false (fun hm=> ?_)]
  obtain ⟨j,hj,he⟩:=List.getElem_of_mem hm
  exact hno j hj (by rw [List.getD_eq_getElem?_getD,List.getElem?_eq_getElem hj];exact he)
def shW:List UInt8:= [97,109,112,32,99,111,112,121,32,103,116,32,108,116,32,110,98,115,112,32,110,111,116,32,112,97,114,97,32,113,117,111,116,32,114,101,103,32,115,104,121,32,115,117,112,49,32,115,117,112,50,32,116,105,109,101,115]
def loW:List UInt8:= [84,97,98,32,78,101,119,76,105,110,101,32,97,112,111,115,32,108,112,97,114,32,99,111,108,111,110,32,112,97,114,116,32,110,111,116,105,110,32,115,117,98,32,115,117,112,32,116,105,109,101,115,98,32,104,101,108,108,105,112,32,109,100,97,115,104,32,110,100,97,115,104,32,108,115,113,117,111,32,114,115,113,117,111,32,108,100,113,117,111,32,114,100,113,117,111,32,101,117,114,111]
def shN:List (List UInt8):=wordsN [] shW
def loN:List (List UInt8):=wordsN [] loW
def shV:List Nat:= [38,169,62,60,160,172,182,34,174,173,185,178,215]
def loV:List Nat:= [9,10,39,40,58,8706,8713,8834,8835,8864,8230,8212,8211,8216,8217,8220,8221,8364]
theorem shN_len:shN.length=13:=by decide+kernel
theorem loN_len:loN.length=18:=by decide+kernel
theorem sh_lt: ∀x∈shV,x<70000:=by decide
theorem lo_lt: ∀x∈loV,x<70000:=by decide
def ints (l:List Nat):List Value:=l.map fun n=> .int .i64 ((n:Nat):Int)
theorem ints_at (l:List Nat) (i:Nat) (h:i<l.length):(ints l)[i]? =some (.int .i64 ((l.getD i 0:Nat):Int)):=by
 simp [ints,List.getD_eq_getElem?_getD,List.getElem?_eq_getElem h]
theorem short_calls {w:World}:Calls Tryz.prog 173 ([]:List Value).toArray w fun e w'=>(∃v b,e= .returned (.tuple #[v,.slice (some ⟨b,0,none⟩) 13 13])∧Own w' 9 1 v 13 (cellsS shN)∧Blk w' b 3 (ints shV))∧Chg w w' No:=by
 refine zCz 4 Tryz.func173 ?_
 refine zz ?_
 refine zCl rfl (wordsR_calls (l:=shW) (by decide)) ?_
 rintro _ w1 ⟨v,rfl,hO,hC⟩
 refine ⟨_,rfl,?_⟩
 refine z_bsE (ints shV) (want_L rfl) (by decide) rfl (by decide) (by decide) (by kernel_rfl) (fun w2 b hN=> ?_)
 refine zz ?_
 have hl:(wordsN [] shW).length=13:=shN_len
 rw [hl] at hO
 exact zk_ret2 (.inr rfl) rfl rfl rfl ⟨⟨v,b,rfl,hO.no hN.chg,hN.blk⟩,hC.no hN.chg⟩
theorem long_calls {w:World}:Calls Tryz.prog 174 ([]:List Value).toArray w fun e w'=>(∃v b,e= .returned (.tuple #[v,.slice (some ⟨b,0,none⟩) 18 18])∧Own w' 9 1 v 18 (cellsS loN)∧Blk w' b 3 (ints loV))∧Chg w w' No:=by
 refine zCz 4 Tryz.func174 ?_
 refine zz ?_
 refine zCl rfl (wordsR_calls (l:=loW) (by decide)) ?_
 rintro _ w1 ⟨v,rfl,hO,hC⟩
 refine ⟨_,rfl,?_⟩
 refine z_bsE (ints loV) (want_L rfl) (by decide) rfl (by decide) (by decide) (by kernel_rfl) (fun w2 b hN=> ?_)
 refine zz ?_
 have hl:(wordsN [] loW).length=18:=loN_len
 rw [hl] at hO
 exact zk_ret2 (.inr rfl) rfl rfl rfl ⟨⟨v,b,rfl,hO.no hN.chg,hN.blk⟩,hC.no hN.chg⟩
end Go.Proofs.YtbcmiijollpgeaaGreat.T
namespace Go.Z
open Go
def okDstS (keys:List Nat) (n:Nat) (ops:Array Oper):Bool:=
 (List.range ops.size).all fun i=>match dstOf ops i with
  |some d=>decide (d<n) && !keys.contains d && (List.range ops.size).all fun j=>i==j||dstOf ops j !=some d
  |none=>true
theorem okDstS_at {keys:List Nat} {n:Nat} {ops:Array Oper} (h:okDstS keys n ops=true) {i:Nat} (hi:i<ops.size) {d:Tmp} (hd:dstOf ops i=some d):d<n∧d∉keys∧ ∀j,j<ops.size→j≠i→dstOf ops j≠some d:=by
 have h1:=List.all_eq_true.1 h i (List.mem_range.2 hi)
 simp only [hd,Bool.and_eq_true,decide_eq_true_eq,Bool.not_eq_true',List.all_eq_true,List.mem_range,Bool.or_eq_true,beq_iff_eq,bne_iff_ne] at h1
 obtain ⟨⟨h2,h3⟩,h4⟩:=h1
 refine ⟨h2,fun hk=> ?_,fun j hj hji=> ?_⟩
 ·have:keys.contains d=true:=by simpa using hk
  rw [this] at h3;cases h3
 ·rcases h4 j hj with e|e
  ·exact absurd e.symm hji
  ·exact e
section
variable {P : Program} {n : Nat} {e : Env} {w : World} {Q : Exit → Act → World → Prop}
def fwdS (ops:Array Oper):Bool:=(List.range ops.size).all fun i=>match ops[i]? with
 |some o=>o.after.all fun e=> !Region.binds .any e||decide (e.on<i)
 |none=>true
theorem fwdS_live {ops:Array Oper} (h:fwdS ops=true) {b:Array Bool} (hsz:b.size=ops.size) (h0:Region.ready .any ops b= []): ∀i,i<ops.size→b.getD i false=true:=by
 intro i
 induction i using Nat.strongRecOn with
 |ind i ih=>
  intro hi
  rcases hb:b.getD i false with _|_
  ·exfalso
   have hin:i∈Region.ready .any ops b:=by
    refine mem_ready.2 ⟨?_,ops[i],by simp [hi],fun e he hbe=> ?_⟩
    ·have:i<b.size:=by omega
     simpa [this] using hb
    ·have h1:=List.all_eq_true.1 h i (List.mem_range.2 hi)
     have h2:ops[i]? =some ops[i]:=by simp [hi]
     simp only [h2] at h1
     have h3:=Array.all_eq_true_iff_forall_mem.1 h1 e he
     have h4:e.on<i:=by
      simp only [Bool.or_eq_true,Bool.not_eq_true',decide_eq_true_eq] at h3
      rcases h3 with h3|h3
      ·rw [hbe] at h3;cases h3
      ·exact h3
     exact ih e.on h4 (by omega)
   rw [h0] at hin;cases hin
  ·rfl
theorem fwdS_lt {ops:Array Oper} (h:fwdS ops=true) {i j:Nat} (hw:waits ops i j=true) (hi:i<ops.size):j<i:=by
 have h1:=List.all_eq_true.1 h i (List.mem_range.2 hi)
 have h2:ops[i]? =some ops[i]:=by simp [hi]
 simp only [h2] at h1
 simp only [waits,h2] at hw
 obtain ⟨e,he,hb⟩:=Array.any_eq_true'.1 hw
 simp only [Bool.and_eq_true,beq_iff_eq] at hb
 have h3:=Array.all_eq_true_iff_forall_mem.1 h1 e he
 simp only [Bool.or_eq_true,Bool.not_eq_true',decide_eq_true_eq] at h3
 rcases h3 with h3|h3
 ·rw [hb.1] at h3;cases h3
 ·omega
def StepS (P:Program) (ops:Array Oper) (n:Nat) (e0:Env) (G:Nat→Value→World→Prop) (kill:Nat→Nat) (T:Array Bool→World→Prop) (Q:Exit→Act→World→Prop) (i:Nat):Prop:=
 ∀b a w,b.size=ops.size→b.getD i false=false→(∀k j,b.getD k false=true→waits ops k j=true→b.getD j false=true)→(∀j,waits ops i j=true→b.getD j false=true)→LkK ops n e0 G (T b) (fun j=>waits ops i j=true) (fun j=> ¬(kill j=i∨ops.size≤kill j)) a w→
  wpOp P ops (NP Q) i (fun a' w'=>(∀d,dstOf ops i=some d→ ∃v,a'=a.put (some d) v∧G i v w')∧(dstOf ops i=none→a'=a)∧T (b.setIfInBounds i true) w'∧ ∀j u,j≠i→kill j≠i→G j u w→G j u w') a w
theorem LkK.putS {ops:Array Oper} {e0:Env} {G:Nat→Value→World→Prop} {kill:Nat→Nat} {T T':World→Prop} (hok:okDstS (e0.map Prod.fst) n ops=true) {D K:Nat→Prop} (hD: ∀j,D j→j<ops.size) {a a':Act} {w w':World} (h:LkK ops n e0 G T D K a w) {i:Nat} (hi:i<ops.size) (hni: ¬D i)
  (hG: ∀d,dstOf ops i=some d→ ∃v,a'=a.put (some d) v∧G i v w') (hN:dstOf ops i=none→a'=a) (hT:T' w') (hf: ∀j u,j≠i→kill j≠i→G j u w→G j u w'):LkK ops n e0 G T' (fun j=>D j∨j=i) (fun j=>K j∨kill j=i) a' w':=by
 cases hd:dstOf ops i with
 |none=>
  obtain rfl:=hN hd
  refine ⟨h.ok,hT,fun j hj dj hdj=> ?_⟩
  rcases hj with hj|rfl
  ·obtain ⟨u,h1,h2⟩:=h.dep j hj dj hdj
   exact ⟨u,h1,fun hk=>hf j u (fun he=>hni (he▸hj)) (fun he=>hk (.inr he)) (h2 (fun he=>hk (.inl he)))⟩
  ·rw [hd] at hdj;cases hdj
 |some d=>
  obtain ⟨v,rfl,hGv⟩:=hG d hd
  obtain ⟨hdn,hdk,hdo⟩:=okDstS_at hok hi hd
  have hsz:=h.ok.size
  refine ⟨⟨h.ok.defers,by simp [Act.put,hsz],fun k u hk=> ?_⟩,hT,fun j hj dj hdj=> ?_⟩
  ·have hne:d≠k:=fun he=>hdk (he▸get_keys e0 k u hk)
   simp only [Act.put,Array.getElem?_setIfInBounds_ne hne]
   exact h.ok.at_ k u hk
  ·rcases hj with hj|rfl
   ·obtain ⟨u,h1,h2⟩:=h.dep j hj dj hdj
    have hne:d≠dj:=fun he=>hdo j (hD j hj) (fun hji=>hni (hji▸hj)) (he▸hdj)
    exact ⟨u,by simp only [Act.put,Array.getElem?_setIfInBounds_ne hne];exact h1,fun hk=>hf j u (fun he=>hni (he▸hj)) (fun he=>hk (.inr he)) (h2 (fun he=>hk (.inl he)))⟩
   ·rw [hd] at hdj;cases hdj
    exact ⟨v,by simp [Act.put,hsz,hdn],fun _=>hGv⟩
theorem zc_drawS {id:Nat} {l:List Oper} (G:Nat→Value→World→Prop) (kill:Nat→Nat) (T:Array Bool→World→Prop) (e0:Env) (hm:P.follows .mixedOrders=true) (hok:okDstS (e0.map Prod.fst) n l.toArray=true) (hfw:fwdS l.toArray=true) (hsub:Sub e0 e) (hT: ∀w',Chg w w' No→w'.heap=w.heap→T (Array.replicate l.toArray.size false) w')
  (hstep: ∀i,i<l.toArray.size→StepS P l.toArray n e0 G kill T Q i)
  (hfin: ∀b a w',(∀i,i<l.toArray.size→b.getD i false=true)→LkK l.toArray n e0 G (T b) (fun j=>j<l.toArray.size) (fun j=> ¬l.toArray.size≤kill j) a w'→NP Q .normal a w'):ZC P n (.region id l.toArray true) e w Q:=by
 unfold ZC
 intro a ha
 refine wp_mono (wp_region_any (Q:=NP Q) hm ?_) NP.le
 refine wpAny_inv (fun b a w=>(∀k j,b.getD k false=true→waits l.toArray k j=true→b.getD j false=true)∧LkK l.toArray n e0 G (T b) (fun j=>j<l.toArray.size∧b.getD j false=true) (fun j=>b.getD (kill j) false=true) a w) ?_ ?_ _ _ _ _ (by simp) (by simp [List.count_replicate]) ?_
 ·intro b a w i hsz hi ⟨hcl,h⟩
  obtain ⟨h0,o,ho,_⟩:=mem_ready.1 hi
  have hlt:i<l.toArray.size:=(Array.getElem?_eq_some_iff.1 ho).1
  have hb:b.getD i false=false:=by
   have h1:i<b.size:=by omega
   simpa [h1] using h0
  have hni: ¬(i<l.toArray.size∧b.getD i false=true):=fun hh=>by rw [hb] at hh;cases hh.2
  have hkl: ∀j,(kill j=i∨l.toArray.size≤kill j)→b.getD (kill j) false=false:=fun j hj=>by
   rcases hj with hj|hj
   ·rw [hj];exact hb
   ·have h':b.size≤kill j:=by omega
    simp [Array.getElem?_eq_none h']
  have hw:=hstep i hlt b a w hsz hb hcl (fun j hj=>waits_of hi hj) ⟨h.ok,h.t,fun j hj d hd=>by
   obtain ⟨v,h1,h2⟩:=h.dep j ⟨by have:=fwdS_lt hfw hj hlt;omega,waits_of hi hj⟩ d hd
   exact ⟨v,h1,fun hk=>h2 (fun he=>by rw [hkl j (Classical.not_not.1 hk)] at he;cases he)⟩⟩
  refine wpOp_mono (fun a' w' ⟨hG,hN,hT',hf⟩=>⟨?_,?_⟩) hw
  ·intro k j hk hw'
   by_cases hj:j=i
   ·subst hj
    have h3:j<b.size:=by omega
    simp [h3]
   ·rw [gd_ne (Ne.symm hj)]
    by_cases hk':k=i
    ·subst hk';exact waits_of hi hw'
    ·rw [gd_ne (Ne.symm hk')] at hk
     exact hcl k j hk hw'
  ·have:=LkK.putS hok (fun j hj=>hj.1) h hlt hni hG hN hT' hf
   refine ⟨this.ok,this.t,fun j hj dj hdj=> ?_⟩
   obtain ⟨v,h1,h2⟩:=this.dep j (by
    by_cases hji:j=i
    ·exact .inr hji
    ·refine .inl ⟨hj.1,?_⟩
     have:=hj.2
     rwa [gd_ne (Ne.symm hji)] at this) dj hdj
   refine ⟨v,h1,fun hk=>h2 (fun he=>hk ?_)⟩
   rcases he with he|he
   ·by_cases hki:i=kill j
    ·rw [←hki] at he;rw [hb] at he;cases he
    ·rw [gd_ne hki];exact he
   ·rw [he]
    have h3:i<b.size:=by omega
    simp [h3]
 ·intro b a w hsz h0 ⟨hcl,h⟩
  have hlv:=fwdS_live hfw hsz h0
  have hkl: ∀j,l.toArray.size≤kill j→b.getD (kill j) false=false:=fun j hj=>by
   have h':b.size≤kill j:=by omega
   simp [Array.getElem?_eq_none h']
  exact hfin b a w hlv ⟨h.ok,h.t,fun j hj d hd=>by
   obtain ⟨v,h1,h2⟩:=h.dep j ⟨hj,hlv j hj⟩ d hd
   exact ⟨v,h1,fun hk=>h2 (fun he=>by rw [hkl j (Classical.not_not.1 hk)] at he;cases he)⟩⟩
 ·refine ⟨(by intro k j hk;rw [gd_rep] at hk;cases hk),ha.sub hsub,hT _ ⟨rfl,rfl,rfl,Nat.le_refl _,fun _ _ _=>rfl⟩ rfl,fun j hj=> ?_⟩
  have:=hj.2
  rw [gd_rep] at this;cases this
variable {ops : Array Oper} {K : Act → World → Prop} {i : Nat} {o : Oper} {d : Tmp} {v : Value} {a : Act}
end
section
variable {P : Program} {n : Nat} {e : Env} {w : World} {Q : Exit → Act → World → Prop} {ops : Array Oper} {rest : List Oper}
variable {d : Tmp} {ty : TypeId} {pos : String} {aft : Array Edge} {g : Option (Nat × Bool)} {ks : List Nat} {S : World → Prop}
end
open Go
section
variable {P : Program} {n : Nat} {e : Env} {w : World} {a : Act}
theorem gS {ops:Array Oper} {G:Nat→Value→World→Prop} {i d0:Nat} {v:Value} (h0:dstOf ops i=some d0) (hG:G i v w): ∀d,dstOf ops i=some d→ ∃u,a.put (some d0) v=a.put (some d) u∧G i u w:=fun d hd=>by
 rw [h0] at hd;cases hd;exact ⟨v,rfl,hG⟩
theorem gN {ops:Array Oper} {G:Nat→Value→World→Prop} {i:Nat} {a':Act} (h0:dstOf ops i=none): ∀d,dstOf ops i=some d→ ∃u,a'=a.put (some d) u∧G i u w:=fun d hd=>by
 rw [h0] at hd;cases hd
theorem gT {ops:Array Oper} {i d0:Nat} {a':Act} (h0:dstOf ops i=some d0):dstOf ops i=none→a'=a:=fun hd=>by
 rw [h0] at hd;cases hd
theorem gd_eq {b:Array Bool} {i:Nat} (h:i<b.size):(b.setIfInBounds i true).getD i false=true:=by simp [h]
end
open Go
section
variable {P : Program} {n : Nat} {e : Env} {w : World} {Q : Exit → Act → World → Prop}
def Step2 (P:Program) (ops:Array Oper) (n:Nat) (e0:Env) (G:Nat→Value→World→Prop) (T:Array Bool→World→Prop) (Q:Exit→Act→World→Prop) (i:Nat):Prop:=
 ∀b a w,b.size=ops.size→b.getD i false=false→(∀k j,b.getD k false=true→waits ops k j=true→b.getD j false=true)→Lk ops n e0 G (T b) (fun j=>waits ops i j=true) a w→ ∃d,dstOf ops i=some d∧wpOp P ops (NP Q) i (fun a' w'=> ∃v,a'=a.put (some d) v∧G i v w'∧T (b.setIfInBounds i true) w'∧ ∀j u,j≠i→b.getD j false=true→G j u w→G j u w') a w
theorem Lk.put2 {ops:Array Oper} {e0:Env} {G:Nat→Value→World→Prop} {T T':World→Prop} {m:Nat} (hok:okDst (e0.map Prod.fst) n m ops=true) {D:Nat→Prop} (hD: ∀j,D j→j<m) {a:Act} {w w':World} (h:Lk ops n e0 G T D a w) {i:Nat} (hi:i<m) (hni: ¬D i) {d:Tmp} (hd:dstOf ops i=some d) {v:Value}
  (hG:G i v w') (hT:T' w') (hf: ∀j u,j≠i→D j→G j u w→G j u w'):Lk ops n e0 G T' (fun j=>D j∨j=i) (a.put (some d) v) w':=by
 obtain ⟨d',hd',hdn,hdk,hdo⟩:=okDst_at hok hi
 rw [hd] at hd';cases hd'
 have hsz:=h.ok.size
 refine ⟨⟨h.ok.defers,by simp [Act.put,hsz],fun k u hk=> ?_⟩,hT,fun j hj dj hdj=> ?_⟩
 ·have hne:d≠k:=fun he=>hdk (he▸get_keys e0 k u hk)
  simp only [Act.put,Array.getElem?_setIfInBounds_ne hne]
  exact h.ok.at_ k u hk
 ·rcases hj with hj|rfl
  ·obtain ⟨u,h1,h2⟩:=h.dep j hj dj hdj
   have hne:d≠dj:=fun he=>hdo j (hD j hj) (fun hji=>hni (hji▸hj)) (he▸hdj)
   exact ⟨u,by simp only [Act.put,Array.getElem?_setIfInBounds_ne hne];exact h1,hf j u (fun he=>hni (he▸hj)) hj h2⟩
  ·rw [hd] at hdj;cases hdj
   exact ⟨v,by simp [Act.put,hsz,hdn],hG⟩
theorem gd_set {b:Array Bool} {i:Nat} (h:i<b.size):(b.setIfInBounds i true).getD i false=true:=by simp [h]
theorem zc_draw2 {id:Nat} {l:List Oper} (m:Nat) (G:Nat→Value→World→Prop) (T:Array Bool→World→Prop) (e0:Env) (hm:P.follows .mixedOrders=true) (hok:okDst (e0.map Prod.fst) n m l.toArray=true) (hfw:fwd l.toArray=true) (hsub:Sub e0 e) (hT: ∀w',Chg w w' No→w'.heap=w.heap→T (Array.replicate l.toArray.size false) w')
  (hstep: ∀i,i<m→Step2 P l.toArray n e0 G T Q i) (hmz:m+2=l.toArray.size) (hl1: ∀b:Array Bool,(∀k j,b.getD k false=true→waits l.toArray k j=true→b.getD j false=true)→(∀j,waits l.toArray m j=true→b.getD j false=true)→ ∀j,j<m→b.getD j false=true) (hl2: ∀b:Array Bool,(∀k j,b.getD k false=true→waits l.toArray k j=true→b.getD j false=true)→(∀j,waits l.toArray (m+1) j=true→b.getD j false=true)→ ∀j,j<m→b.getD j false=true)
  (hfin: ∀b a w',Lk l.toArray n e0 G (T b) (fun j=>j<m) a w'→wpOp P l.toArray (NP Q) m (fun a w=>wpOp P l.toArray (NP Q) (m+1) (NP Q .normal) a w) a w'∧wpOp P l.toArray (NP Q) (m+1) (fun a w=>wpOp P l.toArray (NP Q) m (NP Q .normal) a w) a w'):ZC P n (.region id l.toArray true) e w Q:=by
 unfold ZC
 intro a ha
 refine wp_mono (wp_region_any (Q:=NP Q) hm ?_) NP.le
 refine wpAny_inv (fun b a w=>(b.getD m false=false∧b.getD (m+1) false=false∧(∀k j,b.getD k false=true→waits l.toArray k j=true→b.getD j false=true)∧Lk l.toArray n e0 G (T b) (fun j=>j<m∧b.getD j false=true) a w)∨
  ((∀j,j<m→b.getD j false=true)∧((b.getD m false=true∧b.getD (m+1) false=false∧wpOp P l.toArray (NP Q) (m+1) (NP Q .normal) a w)∨(b.getD m false=false∧b.getD (m+1) false=true∧wpOp P l.toArray (NP Q) m (NP Q .normal) a w)∨(b.getD m false=true∧b.getD (m+1) false=true∧NP Q .normal a w)))) ?_ ?_ _ _ _ _ (by simp) (by simp [List.count_replicate]) ?_
 ·intro b a w i hsz hi h
  obtain ⟨h0,o,ho,_⟩:=mem_ready.1 hi
  have hlt:i<l.toArray.size:=(Array.getElem?_eq_some_iff.1 ho).1
  have hib:i<b.size:=by omega
  have hb:b.getD i false=false:=by simpa [hib] using h0
  have hne: ∀{k:Nat},k≠i→(b.setIfInBounds i true).getD k false=b.getD k false:=fun h=>gd_ne (Ne.symm h) false
  rcases h with ⟨hbm,hbm1,hcl,h⟩|⟨hall,h⟩
  ·by_cases him:i<m
   ·have hni: ¬(i<m∧b.getD i false=true):=fun hh=>by rw [hb] at hh;cases hh.2
    have hjm: ∀j,waits l.toArray i j=true→j<m:=fun j hj=>by
     have hfi:=List.all_eq_true.1 hfw i (List.mem_range.2 hlt)
     simp only [ho] at hfi
     simp only [waits,ho] at hj
     obtain ⟨e,he,hbe⟩:=Array.any_eq_true'.1 hj
     simp only [Bool.and_eq_true,beq_iff_eq] at hbe
     have h3:=Array.all_eq_true_iff_forall_mem.1 hfi e he
     have h4:e.on<i:=by simpa using h3
     omega
    obtain ⟨d,hd,hw⟩:=hstep i him b a w hsz hb hcl ⟨h.ok,h.t,fun j hj d hd=>h.dep j ⟨hjm j hj,waits_of hi hj⟩ d hd⟩
    refine wpOp_mono (fun a' w' ⟨v,ha',hG,hT',hf⟩=> .inl ⟨?_,?_,?_,?_⟩) hw
    ·rw [hne (by omega)];exact hbm
    ·rw [hne (by omega)];exact hbm1
    ·intro k j hk hw'
     by_cases hj:j=i
     ·subst hj;exact gd_set hib
     ·rw [hne hj]
      by_cases hk':k=i
      ·subst hk';exact waits_of hi hw'
      ·rw [hne hk'] at hk
       exact hcl k j hk hw'
    ·subst ha'
     have:=Lk.put2 hok (fun j hj=>hj.1) h him hni hd hG hT' (fun j u h1 h2 h3=>hf j u h1 h2.2 h3)
     refine ⟨this.ok,this.t,fun j hj dj hdj=>this.dep j ?_ dj hdj⟩
     by_cases hji:j=i
     ·exact .inr hji
     ·refine .inl ⟨hj.1,?_⟩
      have:=hj.2
      rwa [hne hji] at this
   ·have hall: ∀j,j<m→b.getD j false=true:=fun j hj=>by
     rcases (by omega:i=m∨i=m+1) with rfl|rfl
     ·exact hl1 b hcl (fun j hj=>waits_of hi hj) j hj
     ·exact hl2 b hcl (fun j hj=>waits_of hi hj) j hj
    have h7:=hfin b a w ⟨h.ok,h.t,fun j hj d hd=>h.dep j ⟨hj,hall j hj⟩ d hd⟩
    rcases (by omega:i=m∨i=m+1) with rfl|rfl
    ·refine wpOp_mono (fun a' w' hq=> .inr ⟨fun j hj=> ?_,.inl ⟨gd_set hib,?_,hq⟩⟩) h7.1
     ·rw [hne (by omega)];exact hall j hj
     ·rw [hne (by omega)];exact hbm1
    ·refine wpOp_mono (fun a' w' hq=> .inr ⟨fun j hj=> ?_,.inr (.inl ⟨?_,gd_set hib,hq⟩)⟩) h7.2
     ·rw [hne (by omega)];exact hall j hj
     ·rw [hne (by omega)];exact hbm
  ·rcases h with ⟨h1,h2,hq⟩|⟨h1,h2,hq⟩|⟨h1,h2,hq⟩
   ·have him:i=m+1:=by
     rcases Nat.lt_trichotomy i m with h3|h3|h3
     ·rw [hall i h3] at hb;cases hb
     ·subst h3;rw [h1] at hb;cases hb
     ·omega
    subst him
    refine wpOp_mono (fun a' w' hq=> .inr ⟨fun j hj=> ?_,.inr (.inr ⟨?_,gd_set hib,hq⟩)⟩) hq
    ·rw [hne (by omega)];exact hall j hj
    ·rw [hne (by omega)];exact h1
   ·have him:i=m:=by
     rcases Nat.lt_trichotomy i m with h3|h3|h3
     ·rw [hall i h3] at hb;cases hb
     ·exact h3
     ·have h4:i=m+1:=by omega
      subst h4;rw [h2] at hb;cases hb
    subst him
    refine wpOp_mono (fun a' w' hq=> .inr ⟨fun j hj=> ?_,.inr (.inr ⟨gd_set hib,?_,hq⟩)⟩) hq
    ·rw [hne (by omega)];exact hall j hj
    ·rw [hne (by omega)];exact h2
   ·exfalso
    rcases Nat.lt_trichotomy i m with h3|h3|h3
    ·rw [hall i h3] at hb;cases hb
    ·subst h3;rw [h1] at hb;cases hb
    ·have h4:i=m+1:=by omega
     subst h4;rw [h2] at hb;cases hb
 ·intro b a w hsz h0 h
  have hlv:=fwd_live hfw hsz h0
  rcases h with ⟨hbm,_⟩|⟨_,h⟩
  ·have:=hlv m (by omega);rw [hbm] at this;cases this
  ·rcases h with ⟨_,h2,_⟩|⟨h1,_,_⟩|⟨_,_,hq⟩
   ·have:=hlv (m+1) (by omega);rw [h2] at this;cases this
   ·have:=hlv m (by omega);rw [h1] at this;cases this
   ·exact hq
 ·refine .inl ⟨gd_rep _ _,gd_rep _ _,(by intro k j hk;rw [gd_rep] at hk;cases hk),ha.sub hsub,hT _ ⟨rfl,rfl,rfl,Nat.le_refl _,fun _ _ _=>rfl⟩ rfl,fun j hj=> ?_⟩
  have:=hj.2
  rw [gd_rep] at this;cases this
end
end Go.Z
namespace Go.Proofs.YtbcmiijollpgeaaGreat.T
open Go Go.Z Go.Proofs
def tl (s:ByteArray):List UInt8:=s.data.toList
theorem bs_tl (s:ByteArray):bs (tl s)=s:=by cases s;rfl
def encL (n:Nat):List UInt8:=tl (Utf8.encode (n:Int))
theorem bs_encL (n:Nat):bs (encL n)=Utf8.encode (n:Int):=bs_tl _
structure AP where
 vl:Value
 vv:Value
 ba:Nat
 ca:Nat
 bn:Nat
 i:Nat
 z0:Nat
 B:Nat
 A:List (List UInt8)
 Nn:List Nat
 L:List (List UInt8)
 V:List (List UInt8)
def AP.va (q:AP):Value:= .slice (some ⟨q.ba,0,none⟩) q.A.length q.ca
def AP.vn (q:AP):Value:= .slice (some ⟨q.bn,0,none⟩) q.Nn.length q.Nn.length
def AP.a (q:AP):List UInt8:=q.A.getD q.i []
def AP.n (q:AP):Nat:=q.Nn.getD q.i 0
def Grown (w:World) (B z0:Nat) (v0 u:Value) (cs:List (List UInt8)):Prop:=Own w 9 1 u cs.length (cellsS cs)∧(∀k,u.ownBlock=some k→B≤k)∧(u.ownBlock=v0.ownBlock∨ ∃k,u.ownBlock=some k∧z0≤k)
theorem Grown.no {w w':World} {B z0:Nat} {v0 u:Value} {cs:List (List UInt8)} (h:Grown w B z0 v0 u cs) (hc:Chg w w' No):Grown w' B z0 v0 u cs:=⟨h.1.no hc,h.2⟩
def Fresh2 (w:World) (z0:Nat) (u:Value) (cs:List (List UInt8)):Prop:= ∃b,u= .slice (some ⟨b,0,none⟩) cs.length cs.length∧z0≤b∧Blk w b 9 (cellsS cs)
theorem Fresh2.chg {w w':World} {z0:Nat} {u:Value} {cs:List (List UInt8)} {S:Nat→Prop} (h:Fresh2 w z0 u cs) (hc:Chg w w' S) (hS: ∀k,S k→k<z0):Fresh2 w' z0 u cs:=by
 obtain ⟨b,h1,h2,h3⟩:=h
 exact ⟨b,h1,h2,h3.chg hc (fun hs=>by have:=hS b hs;omega)⟩
theorem Fresh2.rd {w:World} {z0:Nat} {u:Value} {cs:List (List UInt8)} (h:Fresh2 w z0 u cs):RdS w 9 1 u cs.length (cellsS cs):=by
 obtain ⟨b,rfl,_,h3⟩:=h
 exact RdS.blk h3 (by rw [cellsS_len,Nat.mul_one]) (Nat.le_refl _) (cellsS_one cs) 0 (fun j u hj=>by rw [Nat.zero_add];exact hj)
structure AT0 (q:AP) (w:World):Prop where
 oa:Own w 9 1 q.va q.A.length (cellsS q.A)
 bn:Blk w q.bn 3 (ints q.Nn)
 ol:Own w 9 1 q.vl q.L.length (cellsS q.L)
 ov:Own w 9 1 q.vv q.V.length (cellsS q.V)
 z0:w.heap.size=q.z0
 gl: ∀k,q.vl.ownBlock=some k→q.B≤k∧k≠q.ba
 gv: ∀k,q.vv.ownBlock=some k→q.B≤k∧k≠q.ba∧q.vl.ownBlock≠some k
 il:q.i<q.A.length
 iN:q.i<q.Nn.length
 nn: ∀x∈q.Nn,x<70000
 al: ∀x∈q.A,x.length≤1000
 ll:q.L.length≤1000
 vl:q.V.length≤1000
structure ATW (q:AP) (w0:World) (ai av:Nat) (b:Array Bool) (w:World):Prop where
 chg:Chg w0 w (fun k=>q.vl.ownBlock=some k∨q.vv.ownBlock=some k)
 oa:Own w 9 1 q.va q.A.length (cellsS q.A)
 bn:Blk w q.bn 3 (ints q.Nn)
 ol:b.getD ai false=false→Own w 9 1 q.vl q.L.length (cellsS q.L)
 ov:b.getD av false=false→Own w 9 1 q.vv q.V.length (cellsS q.V)
theorem ATW.no {q:AP} {w0 w w':World} {ai av k:Nat} {b:Array Bool} (h:ATW q w0 ai av b w) (hi:k≠ai) (hv:k≠av) (hc:Chg w w' No):ATW q w0 ai av (b.setIfInBounds k true) w':=
 ⟨h.chg.no hc,h.oa.no hc,h.bn.no hc,fun hb=>(h.ol (by rwa [gd_ne hi] at hb)).no hc,fun hb=>(h.ov (by rwa [gd_ne hv] at hb)).no hc⟩
def G7' (q:AP):Nat→Value→World→Prop
 |0,u,w=>u=q.vl
 |1,u,w=>u=q.va
 |2,u,w=>u= .int .i64 ((q.i:Nat):Int)
 |3,u,w=>u= .pointer (some ⟨q.ba,q.i,none⟩)
 |4,u,w=>u= .string (bs q.a)
 |5,u,w=>u=q.va
 |6,u,w=>u= .int .i64 ((q.i:Nat):Int)
 |7,u,w=>u= .pointer (some ⟨q.ba,q.i,none⟩)
 |8,u,w=>u= .string (bs q.a)
 |9,u,w=>u= .string (bs (q.a++ [59]))
 |10,u,w=>Fresh2 w q.z0 u [q.a,q.a++ [59]]
 |11,u,w=>Grown w q.B q.z0 q.vl u (q.L++ [q.a,q.a++ [59]])
 |12,u,w=>u=q.vv
 |13,u,w=>u=q.vn
 |14,u,w=>u= .int .i64 ((q.i:Nat):Int)
 |15,u,w=>u= .pointer (some ⟨q.bn,q.i,none⟩)
 |16,u,w=>u= .int .i64 ((q.n:Nat):Int)
 |17,u,w=>u= .int .i32 ((q.n:Nat):Int)
 |18,u,w=>u= .string (bs (encL q.n))
 |19,u,w=>u=q.vn
 |20,u,w=>u= .int .i64 ((q.i:Nat):Int)
 |21,u,w=>u= .pointer (some ⟨q.bn,q.i,none⟩)
 |22,u,w=>u= .int .i64 ((q.n:Nat):Int)
 |23,u,w=>u= .int .i32 ((q.n:Nat):Int)
 |24,u,w=>u= .string (bs (encL q.n))
 |25,u,w=>Fresh2 w q.z0 u [encL q.n,encL q.n]
 |26,u,w=>Grown w q.B q.z0 q.vv u (q.V++ [encL q.n,encL q.n])
 |_,_,_=>True
def G7 (q:AP) (j:Nat) (v:Value) (w:World):Prop:=G7' q j v w
theorem G7.no {q:AP} {w w':World} (hc:Chg w w' No): ∀j u,G7 q j u w→G7 q j u w'
 |0,u,h=>h
 |1,u,h=>h
 |2,u,h=>h
 |3,u,h=>h
 |4,u,h=>h
 |5,u,h=>h
 |6,u,h=>h
 |7,u,h=>h
 |8,u,h=>h
 |9,u,h=>h
 |10,u,h=>Fresh2.chg h hc (fun _ h=>h.elim)
 |11,u,h=>Grown.no h hc
 |12,u,h=>h
 |13,u,h=>h
 |14,u,h=>h
 |15,u,h=>h
 |16,u,h=>h
 |17,u,h=>h
 |18,u,h=>h
 |19,u,h=>h
 |20,u,h=>h
 |21,u,h=>h
 |22,u,h=>h
 |23,u,h=>h
 |24,u,h=>h
 |25,u,h=>Fresh2.chg h hc (fun _ h=>h.elim)
 |26,u,h=>Grown.no h hc
 |_+27,u,h=>trivial
theorem G7.apl {q:AP} {w0 w w':World} {b:Array Bool} (h0:AT0 q w0) (hc:Chg w w' (fun k=>q.vl.ownBlock=some k)) (hsm: ∀k,q.vl.ownBlock=some k→k<q.z0) (hbi:b.getD 11 false=false): ∀j u,j≠11→b.getD j false=true→G7 q j u w→G7 q j u w'
 |0,u,_,_,h=>h
 |1,u,_,_,h=>h
 |2,u,_,_,h=>h
 |3,u,_,_,h=>h
 |4,u,_,_,h=>h
 |5,u,_,_,h=>h
 |6,u,_,_,h=>h
 |7,u,_,_,h=>h
 |8,u,_,_,h=>h
 |9,u,_,_,h=>h
 |10,u,_,_,h=>Fresh2.chg h hc hsm
 |11,u,hj,_,h=>absurd rfl hj
 |12,u,_,_,h=>h
 |13,u,_,_,h=>h
 |14,u,_,_,h=>h
 |15,u,_,_,h=>h
 |16,u,_,_,h=>h
 |17,u,_,_,h=>h
 |18,u,_,_,h=>h
 |19,u,_,_,h=>h
 |20,u,_,_,h=>h
 |21,u,_,_,h=>h
 |22,u,_,_,h=>h
 |23,u,_,_,h=>h
 |24,u,_,_,h=>h
 |25,u,_,_,h=>Fresh2.chg h hc hsm
 |26,u,_,_,h=>⟨h.1.chg hc (fun k hk hs=>by
   rcases h.2.2 with h1|⟨m,h1,h2⟩
   ·exact (h0.gv k (h1▸hk)).2.2 hs
   ·rw [hk] at h1;cases h1;have:=hsm _ hs;omega),h.2⟩
 |_+27,u,_,_,h=>trivial
theorem G7.apv {q:AP} {w0 w w':World} {b:Array Bool} (h0:AT0 q w0) (hc:Chg w w' (fun k=>q.vv.ownBlock=some k)) (hsm: ∀k,q.vv.ownBlock=some k→k<q.z0) (hbi:b.getD 26 false=false): ∀j u,j≠26→b.getD j false=true→G7 q j u w→G7 q j u w'
 |0,u,_,_,h=>h
 |1,u,_,_,h=>h
 |2,u,_,_,h=>h
 |3,u,_,_,h=>h
 |4,u,_,_,h=>h
 |5,u,_,_,h=>h
 |6,u,_,_,h=>h
 |7,u,_,_,h=>h
 |8,u,_,_,h=>h
 |9,u,_,_,h=>h
 |10,u,_,_,h=>Fresh2.chg h hc hsm
 |11,u,_,_,h=>⟨h.1.chg hc (fun k hk hs=>by
   rcases h.2.2 with h1|⟨m,h1,h2⟩
   ·exact (h0.gv k hs).2.2 (h1▸hk)
   ·rw [hk] at h1;cases h1;have:=hsm _ hs;omega),h.2⟩
 |12,u,_,_,h=>h
 |13,u,_,_,h=>h
 |14,u,_,_,h=>h
 |15,u,_,_,h=>h
 |16,u,_,_,h=>h
 |17,u,_,_,h=>h
 |18,u,_,_,h=>h
 |19,u,_,_,h=>h
 |20,u,_,_,h=>h
 |21,u,_,_,h=>h
 |22,u,_,_,h=>h
 |23,u,_,_,h=>h
 |24,u,_,_,h=>h
 |25,u,_,_,h=>Fresh2.chg h hc hsm
 |26,u,hj,_,h=>absurd rfl hj
 |_+27,u,_,_,h=>trivial
def G11' (q:AP):Nat→Value→World→Prop
 |0,u,w=>u=q.vl
 |1,u,w=>u=q.va
 |2,u,w=>u= .int .i64 ((q.i:Nat):Int)
 |3,u,w=>u= .pointer (some ⟨q.ba,q.i,none⟩)
 |4,u,w=>u= .string (bs q.a)
 |5,u,w=>u= .string (bs (q.a++ [59]))
 |6,u,w=>Fresh2 w q.z0 u [q.a++ [59]]
 |7,u,w=>Grown w q.B q.z0 q.vl u (q.L++ [q.a++ [59]])
 |8,u,w=>u=q.vv
 |9,u,w=>u=q.vn
 |10,u,w=>u= .int .i64 ((q.i:Nat):Int)
 |11,u,w=>u= .pointer (some ⟨q.bn,q.i,none⟩)
 |12,u,w=>u= .int .i64 ((q.n:Nat):Int)
 |13,u,w=>u= .int .i32 ((q.n:Nat):Int)
 |14,u,w=>u= .string (bs (encL q.n))
 |15,u,w=>Fresh2 w q.z0 u [encL q.n]
 |16,u,w=>Grown w q.B q.z0 q.vv u (q.V++ [encL q.n])
 |_,_,_=>True
def G11 (q:AP) (j:Nat) (v:Value) (w:World):Prop:=G11' q j v w
theorem G11.no {q:AP} {w w':World} (hc:Chg w w' No): ∀j u,G11 q j u w→G11 q j u w'
 |0,u,h=>h
 |1,u,h=>h
 |2,u,h=>h
 |3,u,h=>h
 |4,u,h=>h
 |5,u,h=>h
 |6,u,h=>Fresh2.chg h hc (fun _ h=>h.elim)
 |7,u,h=>Grown.no h hc
 |8,u,h=>h
 |9,u,h=>h
 |10,u,h=>h
 |11,u,h=>h
 |12,u,h=>h
 |13,u,h=>h
 |14,u,h=>h
 |15,u,h=>Fresh2.chg h hc (fun _ h=>h.elim)
 |16,u,h=>Grown.no h hc
 |_+17,u,h=>trivial
theorem G11.apl {q:AP} {w0 w w':World} {b:Array Bool} (h0:AT0 q w0) (hc:Chg w w' (fun k=>q.vl.ownBlock=some k)) (hsm: ∀k,q.vl.ownBlock=some k→k<q.z0) (hbi:b.getD 7 false=false): ∀j u,j≠7→b.getD j false=true→G11 q j u w→G11 q j u w'
 |0,u,_,_,h=>h
 |1,u,_,_,h=>h
 |2,u,_,_,h=>h
 |3,u,_,_,h=>h
 |4,u,_,_,h=>h
 |5,u,_,_,h=>h
 |6,u,_,_,h=>Fresh2.chg h hc hsm
 |7,u,hj,_,h=>absurd rfl hj
 |8,u,_,_,h=>h
 |9,u,_,_,h=>h
 |10,u,_,_,h=>h
 |11,u,_,_,h=>h
 |12,u,_,_,h=>h
 |13,u,_,_,h=>h
 |14,u,_,_,h=>h
 |15,u,_,_,h=>Fresh2.chg h hc hsm
 |16,u,_,_,h=>⟨h.1.chg hc (fun k hk hs=>by
   rcases h.2.2 with h1|⟨m,h1,h2⟩
   ·exact (h0.gv k (h1▸hk)).2.2 hs
   ·rw [hk] at h1;cases h1;have:=hsm _ hs;omega),h.2⟩
 |_+17,u,_,_,h=>trivial
theorem G11.apv {q:AP} {w0 w w':World} {b:Array Bool} (h0:AT0 q w0) (hc:Chg w w' (fun k=>q.vv.ownBlock=some k)) (hsm: ∀k,q.vv.ownBlock=some k→k<q.z0) (hbi:b.getD 16 false=false): ∀j u,j≠16→b.getD j false=true→G11 q j u w→G11 q j u w'
 |0,u,_,_,h=>h
 |1,u,_,_,h=>h
 |2,u,_,_,h=>h
 |3,u,_,_,h=>h
 |4,u,_,_,h=>h
 |5,u,_,_,h=>h
 |6,u,_,_,h=>Fresh2.chg h hc hsm
 |7,u,_,_,h=>⟨h.1.chg hc (fun k hk hs=>by
   rcases h.2.2 with h1|⟨m,h1,h2⟩
   ·exact (h0.gv k hs).2.2 (h1▸hk)
   ·rw [hk] at h1;cases h1;have:=hsm _ hs;omega),h.2⟩
 |8,u,_,_,h=>h
 |9,u,_,_,h=>h
 |10,u,_,_,h=>h
 |11,u,_,_,h=>h
 |12,u,_,_,h=>h
 |13,u,_,_,h=>h
 |14,u,_,_,h=>h
 |15,u,_,_,h=>Fresh2.chg h hc hsm
 |16,u,hj,_,h=>absurd rfl hj
 |_+17,u,_,_,h=>trivial
def nmS:Nat→List (List UInt8)
 |0=> [[98,110,101,59],[110,118,108,116,59]]
 |i+1=>nmS i++ [shN.getD i [],shN.getD i []++ [59]]
def vaS:Nat→List (List UInt8)
 |0=> [[61,226,131,165],[60,226,131,146]]
 |i+1=>vaS i++ [encL (shV.getD i 0),encL (shV.getD i 0)]
def nmL:Nat→List (List UInt8)
 |0=>nmS 13
 |i+1=>nmL i++ [loN.getD i []++ [59]]
def vaL:Nat→List (List UInt8)
 |0=>vaS 13
 |i+1=>vaL i++ [encL (loV.getD i 0)]
theorem nmS_len: ∀i,(nmS i).length=2+2*i
 |0=>rfl
 |i+1=>by simp only [nmS,List.length_append,List.length_cons,List.length_nil,nmS_len i];omega
theorem vaS_len: ∀i,(vaS i).length=2+2*i
 |0=>rfl
 |i+1=>by simp only [vaS,List.length_append,List.length_cons,List.length_nil,vaS_len i];omega
theorem nmL_len: ∀i,(nmL i).length=28+i
 |0=>nmS_len 13
 |i+1=>by simp only [nmL,List.length_append,List.length_cons,List.length_nil,nmL_len i];omega
theorem vaL_len: ∀i,(vaL i).length=28+i
 |0=>vaS_len 13
 |i+1=>by simp only [vaL,List.length_append,List.length_cons,List.length_nil,vaL_len i];omega
theorem head_app {l r:List (List UInt8)} {x:List UInt8} (h:l.head? =some x):(l++r).head? =some x:=by
 cases l with
 |nil=>cases h
 |cons a l=>exact h
theorem own_apart {w:World} {v1 v2:Value} {n1 n2:Nat} {l1 l2:List (List UInt8)} {x y:List UInt8} (h1:Own w 9 1 v1 n1 (cellsS l1)) (h2:Own w 9 1 v2 n2 (cellsS l2)) (hx:l1.head? =some x) (hy:l2.head? =some y) (hne:x≠y) {k:Nat} (hk:v1.ownBlock=some k):v2.ownBlock≠some k:=fun hk2=>by
 obtain ⟨_,c1⟩:=h1.cases
 obtain ⟨_,c2⟩:=h2.cases
 rcases c1 with ⟨rfl,_⟩|⟨b1,cap1,j1,rfl,_,_,B1,_⟩
 ·cases hk
 rcases c2 with ⟨rfl,_⟩|⟨b2,cap2,j2,rfl,_,_,B2,_⟩
 ·cases hk2
 cases hk;cases hk2
 have e:=(B1.inj B2).2
 cases l1 with
 |nil=>cases hx
 |cons a1 r1=>
  cases l2 with
  |nil=>cases hy
  |cons a2 r2=>
   cases hx;cases hy
   have:Value.string (bs x)=Value.string (bs y):=(List.cons.inj e).1
   exact hne (bs_inj.1 (by simpa using this))
structure AR (W u:World) (ba ca bn bb cb bm:Nat) (vl vv:Value) (L V:List (List UInt8)):Prop where
 o1:Own u 9 1 (.slice (some ⟨ba,0,none⟩) 13 ca) 13 (cellsS shN)
 n1:Blk u bn 3 (ints shV)
 o2:Own u 9 1 (.slice (some ⟨bb,0,none⟩) 18 cb) 18 (cellsS loN)
 n2:Blk u bm 3 (ints loV)
 ol:Own u 9 1 vl L.length (cellsS L)
 ov:Own u 9 1 vv V.length (cellsS V)
 gl: ∀k,vl.ownBlock=some k→W.heap.size≤k∧k≠ba∧k≠bb
 gv: ∀k,vv.ownBlock=some k→W.heap.size≤k∧k≠ba∧k≠bb
 hl:L.head? =some [98,110,101,59]
 hv:V.head? =some [61,226,131,165]
 chg:Chg W u No
theorem AR.next {W u y:World} {ba ca bn bb cb bm:Nat} {vl vv v1 v2:Value} {L V nA nB:List (List UInt8)} (h:AR W u ba ca bn bb cb bm vl vv L V) (hc:Chg u y (fun k=>vl.ownBlock=some k∨vv.ownBlock=some k)) (e1:Grown y W.heap.size u.heap.size vl v1 (L++nA)) (e2:Grown y W.heap.size u.heap.size vv v2 (V++nB)):AR W y ba ca bn bb cb bm v1 v2 (L++nA) (V++nB):=by
 have hba:ba<u.heap.size:=h.o1.lt rfl
 have hbb:bb<u.heap.size:=h.o2.lt rfl
 have t9: ∀{b:Nat} {cs:List Value},Blk u b 3 cs→ ¬(vl.ownBlock=some b∨vv.ownBlock=some b):=by
  rintro b cs hb (he|he)
  ·exact h.ol.ne he hb (by decide) rfl
  ·exact h.ov.ne he hb (by decide) rfl
 refine ⟨h.o1.chg hc (fun k hk hs=> ?_),h.n1.chg hc (t9 h.n1),h.o2.chg hc (fun k hk hs=> ?_),h.n2.chg hc (t9 h.n2),e1.1,e2.1,fun k hk=>⟨e1.2.1 k hk,?_⟩,fun k hk=>⟨e2.2.1 k hk,?_⟩,head_app h.hl,head_app h.hv,h.chg.trans hc (fun i hi hs=>by
  rcases hs with hs|hs
  ·have:=(h.gl i hs).1;omega
  ·have:=(h.gv i hs).1;omega)⟩
 ·cases hk
  rcases hs with hs|hs
  ·exact (h.gl ba hs).2.1 rfl
  ·exact (h.gv ba hs).2.1 rfl
 ·cases hk
  rcases hs with hs|hs
  ·exact (h.gl bb hs).2.2 rfl
  ·exact (h.gv bb hs).2.2 rfl
 ·rcases e1.2.2 with he|⟨m,he,hm⟩
  ·exact (h.gl k (he▸hk)).2
  ·rw [hk] at he;cases he;omega
 ·rcases e2.2.2 with he|⟨m,he,hm⟩
  ·exact (h.gv k (he▸hk)).2
  ·rw [hk] at he;cases he;omega
theorem Own.fresh {w w':World} {b:Nat} {l:List (List UInt8)} (h:New w w' b 9 (cellsS l)) (hl:l.length≤1000):Own w' 9 1 (.slice (some ⟨b,0,none⟩) l.length l.length) l.length (cellsS l):=
 Own.mk' (junk:= []) (by rw [cellsS_len,Nat.mul_one]) (Nat.le_refl _) (by unfold maxLen;omega) (by rw [List.append_nil];exact h.blk) (by rw [List.append_nil,cellsS_len,Nat.mul_one]) (cellsS_one l)
theorem shN_le: ∀x∈shN,x.length≤1000:=by decide+kernel
theorem loN_le: ∀x∈loN,x.length≤1000:=by decide+kernel
theorem allN_calls {w:World}:Calls Tryz.prog 145 ([]:List Value).toArray w fun e w'=>(∃v1 v2,e= .returned (.tuple #[v1,v2])∧Own w' 9 1 v1 46 (cellsS (nmL 18))∧Own w' 9 1 v2 46 (cellsS (vaL 18)))∧Chg w w' No:=by
 refine zCz 78 Tryz.func145 ?_
 refine zz ?_
 refine zCl rfl short_calls ?_
 rintro _ w1 ⟨⟨va,bn,rfl,hO1,hN1⟩,hC1⟩
 refine ⟨_,rfl,?_⟩
 refine zz ?_
 refine zCl rfl long_calls ?_
 rintro _ w2 ⟨⟨vb,bm,rfl,hO2,hN2⟩,hC2⟩
 refine ⟨_,rfl,?_⟩
 obtain ⟨ba,ca,rfl⟩: ∃ba ca,va= .slice (some ⟨ba,0,none⟩) 13 ca:=by
  obtain ⟨_,h2⟩:=hO1.cases
  rcases h2 with ⟨_,h3,_⟩|⟨b,cap,junk,hv,_⟩
  ·cases h3
  ·exact ⟨b,cap,hv⟩
 obtain ⟨bb,cb,rfl⟩: ∃bb cb,vb= .slice (some ⟨bb,0,none⟩) 18 cb:=by
  obtain ⟨_,h2⟩:=hO2.cases
  rcases h2 with ⟨_,h3,_⟩|⟨b,cap,junk,hv,_⟩
  ·cases h3
  ·exact ⟨b,cap,hv⟩
 have hO1:=hO1.no hC2
 have hN1:=hN1.no hC2
 refine zz ?_
 refine z_bsE (cellsS (nmS 0)) (want_L rfl) (by decide) rfl (by decide) (by decide) (by kernel_rfl) (fun w3 b3 hB3=> ?_)
 refine z_bsE (cellsS (vaS 0)) (want_L rfl) (by decide) rfl (by decide) (by decide) (by kernel_rfl) (fun w4 b4 hB4=> ?_)
 have hba:ba<w2.heap.size:=hO1.lt rfl
 have hbb:bb<w2.heap.size:=hO2.lt rfl
 have hC3:Chg w w4 No:=((hC1.no hC2).no hB3.chg).no hB4.chg
 have hR0:AR w w4 ba ca bn bb cb bm (.slice (some ⟨b3,0,none⟩) 2 2) (.slice (some ⟨b4,0,none⟩) 2 2) (nmS 0) (vaS 0):=
  ⟨(hO1.no hB3.chg).no hB4.chg,(hN1.no hB3.chg).no hB4.chg,(hO2.no hB3.chg).no hB4.chg,(hN2.no hB3.chg).no hB4.chg,(Own.fresh hB3 (by decide)).no hB4.chg,Own.fresh hB4 (by decide),fun k hk=>by
   have hk:some b3=some k:=hk
   cases hk;have:=hB3.at_;have:=hC1.size;have:=hC2.size;omega,fun k hk=>by
   have hk:some b4=some k:=hk
   cases hk;have:=hB4.at_;have:=hB3.chg.size;have:=hC1.size;have:=hC2.size;omega,rfl,rfl,hC3⟩
 refine zz ?_
 refine zc_loopW (ι:=Nat×Value×Value) (fun k u=> [(2,.slice (some ⟨ba,0,none⟩) 13 ca),(3,.slice (some ⟨bn,0,none⟩) 13 13),(4,.slice (some ⟨bb,0,none⟩) 18 cb),(5,.slice (some ⟨bm,0,none⟩) 18 18),(6,k.2.1),(7,k.2.2),(8,.int .i64 (k.1:Nat))]) (fun k u=>k.1≤13∧AR w u ba ca bn bb cb bm k.2.1 k.2.2 (nmS k.1) (vaS k.1)) (fun k u=>13 - k.1) (0,.slice (some ⟨b3,0,none⟩) 2 2,.slice (some ⟨b4,0,none⟩) 2 2) ⟨Nat.zero_le _,hR0⟩ ⟨rfl,rfl,rfl,rfl,rfl,rfl,rfl,trivial⟩ ?_
 rintro ⟨i,vl,vv⟩ u ⟨hi,hR⟩
 dsimp only at hi hR ⊢
 by_cases hlt:i<13
 ·skip
  obtain ⟨q,hq⟩: ∃q:AP,q=⟨vl,vv,ba,ca,bn,i,u.heap.size,w.heap.size,shN,shV,nmS i,vaS i⟩:=⟨_,rfl⟩
  have h0:AT0 q u:=by
   rw [hq]
   exact ⟨by have:=hR.o1;unfold AP.va;dsimp only;rw [shN_len];exact this,hR.n1,hR.ol,hR.ov,rfl,fun k hk=>⟨(hR.gl k hk).1,(hR.gl k hk).2.1⟩,fun k hk=>⟨(hR.gv k hk).1,(hR.gv k hk).2.1,fun he=>own_apart hR.ol hR.ov hR.hl hR.hv (by decide) he hk⟩,by dsimp only;rw [shN_len];exact hlt,by dsimp only;exact hlt,sh_lt,shN_le,by dsimp only;rw [nmS_len];omega,by dsimp only;rw [vaS_len];omega⟩
  have hqa:Value.slice (some ⟨ba,0,none⟩) 13 ca=q.va:=by rw [hq];unfold AP.va;dsimp only;rw [shN_len]
  have hqn:Value.slice (some ⟨bn,0,none⟩) 13 13=q.vn:=by rw [hq];rfl
  have hql:vl=q.vl:=by rw [hq]
  have hqv:vv=q.vv:=by rw [hq]
  have hqi:i=q.i:=by rw [hq]
  have hz:u.heap.size=q.z0:=by rw [hq]
  have hBB:w.heap.size=q.B:=by rw [hq]
  have hLL:nmS i=q.L:=by rw [hq]
  have hVV:vaS i=q.V:=by rw [hq]
  have hna:shN.getD i []=q.a:=by rw [hq];rfl
  have hnb:encL (shV.getD i 0)=encL q.n:=by rw [hq];rfl
  have hB0:q.B≤q.z0:=by rw [←hBB,←hz];exact hR.chg.size
  have hal:q.a.length≤1000:=h0.al _ (getD_mem _ _ h0.il)
  have hnn:q.n<70000:=h0.nn _ (by unfold AP.n;rw [List.getD_eq_getElem?_getD,List.getElem?_eq_getElem h0.iN];exact List.getElem_mem h0.iN)
  refine zz ?_
  rw [hqa,hqn,hql,hqv,hqi]
  refine zc_draw2 27 (G7 q) (fun b w'=>ATW q u 11 26 b w') [(2,q.va),(3,q.vn),(4,.slice (some ⟨bb,0,none⟩) 18 cb),(5,.slice (some ⟨bm,0,none⟩) 18 18),(6,q.vl),(7,q.vv),(8,.int .i64 ((q.i:Nat):Int))] (by rfl) (by kernel_rfl) (by kernel_rfl) ⟨rfl,rfl,rfl,rfl,rfl,rfl,rfl,trivial⟩ (fun w' hc _=>⟨hc.mono (fun _ _ h=>h.elim),h0.oa.no hc,h0.bn.no hc,fun _=>h0.ol.no hc,fun _=>h0.ov.no hc⟩) ?_ (by rfl) (fun b hcl hw j hj=>by
    have d0:=hw 0 (by kernel_rfl)
    have d1:=hw 1 (by kernel_rfl)
    have d2:=hw 2 (by kernel_rfl)
    have d3:=hw 3 (by kernel_rfl)
    have d4:=hw 4 (by kernel_rfl)
    have d5:=hw 5 (by kernel_rfl)
    have d6:=hw 6 (by kernel_rfl)
    have d7:=hw 7 (by kernel_rfl)
    have d8:=hw 8 (by kernel_rfl)
    have d9:=hw 9 (by kernel_rfl)
    have d10:=hw 10 (by kernel_rfl)
    have d11:=hw 11 (by kernel_rfl)
    have d26:=hw 26 (by kernel_rfl)
    have d12:=hcl 26 12 d26 (by kernel_rfl)
    have d25:=hcl 26 25 d26 (by kernel_rfl)
    have d18:=hcl 25 18 d25 (by kernel_rfl)
    have d24:=hcl 25 24 d25 (by kernel_rfl)
    have d23:=hcl 24 23 d24 (by kernel_rfl)
    have d17:=hcl 18 17 d18 (by kernel_rfl)
    have d22:=hcl 23 22 d23 (by kernel_rfl)
    have d16:=hcl 17 16 d17 (by kernel_rfl)
    have d21:=hcl 22 21 d22 (by kernel_rfl)
    have d15:=hcl 16 15 d16 (by kernel_rfl)
    have d19:=hcl 21 19 d21 (by kernel_rfl)
    have d20:=hcl 21 20 d21 (by kernel_rfl)
    have d13:=hcl 15 13 d15 (by kernel_rfl)
    have d14:=hcl 15 14 d15 (by kernel_rfl)
    match j,hj with
    |0,_=>exact d0
    |1,_=>exact d1
    |2,_=>exact d2
    |3,_=>exact d3
    |4,_=>exact d4
    |5,_=>exact d5
    |6,_=>exact d6
    |7,_=>exact d7
    |8,_=>exact d8
    |9,_=>exact d9
    |10,_=>exact d10
    |11,_=>exact d11
    |12,_=>exact d12
    |13,_=>exact d13
    |14,_=>exact d14
    |15,_=>exact d15
    |16,_=>exact d16
    |17,_=>exact d17
    |18,_=>exact d18
    |19,_=>exact d19
    |20,_=>exact d20
    |21,_=>exact d21
    |22,_=>exact d22
    |23,_=>exact d23
    |24,_=>exact d24
    |25,_=>exact d25
    |26,_=>exact d26
    |_+27,h=>exact absurd h (by omega)) (fun b hcl hw j hj=>by
    have d0:=hw 0 (by kernel_rfl)
    have d1:=hw 1 (by kernel_rfl)
    have d2:=hw 2 (by kernel_rfl)
    have d3:=hw 3 (by kernel_rfl)
    have d4:=hw 4 (by kernel_rfl)
    have d5:=hw 5 (by kernel_rfl)
    have d6:=hw 6 (by kernel_rfl)
    have d7:=hw 7 (by kernel_rfl)
    have d8:=hw 8 (by kernel_rfl)
    have d9:=hw 9 (by kernel_rfl)
    have d10:=hw 10 (by kernel_rfl)
    have d11:=hw 11 (by kernel_rfl)
    have d12:=hw 12 (by kernel_rfl)
    have d13:=hw 13 (by kernel_rfl)
    have d14:=hw 14 (by kernel_rfl)
    have d15:=hw 15 (by kernel_rfl)
    have d16:=hw 16 (by kernel_rfl)
    have d17:=hw 17 (by kernel_rfl)
    have d18:=hw 18 (by kernel_rfl)
    have d19:=hw 19 (by kernel_rfl)
    have d20:=hw 20 (by kernel_rfl)
    have d21:=hw 21 (by kernel_rfl)
    have d22:=hw 22 (by kernel_rfl)
    have d23:=hw 23 (by kernel_rfl)
    have d24:=hw 24 (by kernel_rfl)
    have d25:=hw 25 (by kernel_rfl)
    have d26:=hw 26 (by kernel_rfl)
    have d27:=hw 27 (by kernel_rfl)
    match j,hj with
    |0,_=>exact d0
    |1,_=>exact d1
    |2,_=>exact d2
    |3,_=>exact d3
    |4,_=>exact d4
    |5,_=>exact d5
    |6,_=>exact d6
    |7,_=>exact d7
    |8,_=>exact d8
    |9,_=>exact d9
    |10,_=>exact d10
    |11,_=>exact d11
    |12,_=>exact d12
    |13,_=>exact d13
    |14,_=>exact d14
    |15,_=>exact d15
    |16,_=>exact d16
    |17,_=>exact d17
    |18,_=>exact d18
    |19,_=>exact d19
    |20,_=>exact d20
    |21,_=>exact d21
    |22,_=>exact d22
    |23,_=>exact d23
    |24,_=>exact d24
    |25,_=>exact d25
    |26,_=>exact d26
    |_+27,h=>exact absurd h (by omega)) ?_
  ·intro i' hi' bq a y hbsz hbi hcl hL
   obtain ⟨hok',hTL,hd⟩:=hL
   have hi15:i'<27:=hi'
   have g: ∀j,waits _ i' j=true→ ∀dj,dstOf _ j=some dj→ ∃v,a.tmps[dj]? =some v∧G7 q j v y:=fun j hw dj hdj=>hd j hw dj hdj
   have hno: ∀{k:Nat} {y':World},k≠11→k≠26→Chg y y' No→ATW q u 11 26 (bq.setIfInBounds k true) y':=fun h1 h2 h3=>hTL.no h1 h2 h3
   have hca:y.cell? ⟨q.ba,q.i,none⟩=some (.string (bs q.a)):=by
    obtain ⟨_,h2⟩:=hTL.oa.cases
    rcases h2 with ⟨hv,_⟩|⟨b,cap,junk,hv,h3,h4,h5,h6⟩
    ·cases hv
    ·cases hv
     rw [h5.cell,List.getElem?_append_left (by rw [cellsS_len];exact h0.il)]
     exact cellsS_at q.A q.i h0.il
   have hcn:y.cell? ⟨q.bn,q.i,none⟩=some (.int .i64 ((q.n:Nat):Int)):=by rw [hTL.bn.cell];exact ints_at q.Nn q.i h0.iN
   have hsz:q.z0≤y.heap.size:=by rw [←h0.z0];exact hTL.chg.size
   match i',hi15 with
   |0,_=>exact ⟨26,rfl,wo_pure rfl hok' rfl ⟨_,rfl,(show q.vl=q.vl from rfl),hno (by decide) (by decide) (Chg.refl _ _),fun j u _ _ h=>h⟩⟩
   |1,_=>exact ⟨27,rfl,wo_pure rfl hok' rfl ⟨_,rfl,(show q.va=q.va from rfl),hno (by decide) (by decide) (Chg.refl _ _),fun j u _ _ h=>h⟩⟩
   |2,_=>exact ⟨28,rfl,wo_pure rfl hok' rfl ⟨_,rfl,(show Value.int .i64 ((q.i:Nat):Int)=Value.int .i64 ((q.i:Nat):Int) from rfl),hno (by decide) (by decide) (Chg.refl _ _),fun j u _ _ h=>h⟩⟩
   |3,_=>
    obtain ⟨u1,hu1,eu1⟩:=g 1 (by kernel_rfl) _ rfl
    have eu1:u1=q.va:=eu1
    subst eu1
    obtain ⟨u2,hu2,eu2⟩:=g 2 (by kernel_rfl) _ rfl
    have eu2:u2=Value.int .i64 ((q.i:Nat):Int):=eu2
    subst eu2
    exact ⟨29,rfl,wo_run rfl (want_L rfl) rfl ((hok'.cons hu1).cons hu2) (r_ia rfl rfl (by omega) (by have:=h0.il;have:=h0.iN;omega)) ⟨_,rfl,(show Value.pointer (some ⟨q.ba,0+((q.i:Nat):Int).toNat*1,none⟩)=Value.pointer (some ⟨q.ba,q.i,none⟩) by simp),hno (by decide) (by decide) (Chg.refl _ _),fun j u _ _ h=>h⟩⟩
   |4,_=>
    obtain ⟨u1,hu1,eu1⟩:=g 3 (by kernel_rfl) _ rfl
    have eu1:u1=Value.pointer (some ⟨q.ba,q.i,none⟩):=eu1
    subst eu1
    exact ⟨30,rfl,wo_run rfl (want_L rfl) rfl (hok'.cons hu1) (r_load1 rfl hca) ⟨_,rfl,(show Value.string (bs q.a)=Value.string (bs q.a) from rfl),hno (by decide) (by decide) (Chg.refl _ _),fun j u _ _ h=>h⟩⟩
   |5,_=>exact ⟨31,rfl,wo_pure rfl hok' rfl ⟨_,rfl,(show q.va=q.va from rfl),hno (by decide) (by decide) (Chg.refl _ _),fun j u _ _ h=>h⟩⟩
   |6,_=>exact ⟨32,rfl,wo_pure rfl hok' rfl ⟨_,rfl,(show Value.int .i64 ((q.i:Nat):Int)=Value.int .i64 ((q.i:Nat):Int) from rfl),hno (by decide) (by decide) (Chg.refl _ _),fun j u _ _ h=>h⟩⟩
   |7,_=>
    obtain ⟨u1,hu1,eu1⟩:=g 5 (by kernel_rfl) _ rfl
    have eu1:u1=q.va:=eu1
    subst eu1
    obtain ⟨u2,hu2,eu2⟩:=g 6 (by kernel_rfl) _ rfl
    have eu2:u2=Value.int .i64 ((q.i:Nat):Int):=eu2
    subst eu2
    exact ⟨33,rfl,wo_run rfl (want_L rfl) rfl ((hok'.cons hu1).cons hu2) (r_ia rfl rfl (by omega) (by have:=h0.il;have:=h0.iN;omega)) ⟨_,rfl,(show Value.pointer (some ⟨q.ba,0+((q.i:Nat):Int).toNat*1,none⟩)=Value.pointer (some ⟨q.ba,q.i,none⟩) by simp),hno (by decide) (by decide) (Chg.refl _ _),fun j u _ _ h=>h⟩⟩
   |8,_=>
    obtain ⟨u1,hu1,eu1⟩:=g 7 (by kernel_rfl) _ rfl
    have eu1:u1=Value.pointer (some ⟨q.ba,q.i,none⟩):=eu1
    subst eu1
    exact ⟨34,rfl,wo_run rfl (want_L rfl) rfl (hok'.cons hu1) (r_load1 rfl hca) ⟨_,rfl,(show Value.string (bs q.a)=Value.string (bs q.a) from rfl),hno (by decide) (by decide) (Chg.refl _ _),fun j u _ _ h=>h⟩⟩
   |9,_=>
    obtain ⟨u1,hu1,eu1⟩:=g 8 (by kernel_rfl) _ rfl
    have eu1:u1=Value.string (bs q.a):=eu1
    subst eu1
    exact ⟨35,rfl,wo_run rfl (want_L rfl) rfl (hok'.cons hu1) (r_catL (r:= [59]) rfl rfl (by simp only [List.length_cons,List.length_nil];omega)) ⟨_,rfl,(show Value.string (bs (q.a++ [59]))=Value.string (bs (q.a++ [59])) from rfl),hno (by decide) (by decide) (Chg.refl _ _),fun j u _ _ h=>h⟩⟩
   |10,_=>
    obtain ⟨u1,hu1,eu1⟩:=g 4 (by kernel_rfl) _ rfl
    have eu1:u1=Value.string (bs q.a):=eu1
    subst eu1
    obtain ⟨u2,hu2,eu2⟩:=g 9 (by kernel_rfl) _ rfl
    have eu2:u2=Value.string (bs (q.a++ [59])):=eu2
    subst eu2
    have hN:=New.mk' y 9 (cellsS [q.a,q.a++ [59]])
    exact ⟨36,rfl,wo_run rfl (want_L rfl) rfl ((hok'.cons hu1).cons hu2) (run_bsE (cellsS [q.a,q.a++ [59]]) rfl (by decide) (by decide) (by kernel_rfl)) ⟨_,rfl,(show Fresh2 _ q.z0 _ [q.a,q.a++ [59]] from ⟨_,rfl,hsz,hN.blk⟩),hno (by decide) (by decide) hN.chg,fun j u _ _ h=>G7.no hN.chg j u h⟩⟩
   |11,_=>
    obtain ⟨u1,hu1,eu1⟩:=g 0 (by kernel_rfl) _ rfl
    have eu1:u1=q.vl:=eu1
    subst eu1
    obtain ⟨u2,hu2,e2⟩:=g 10 (by kernel_rfl) _ rfl
    have e2:Fresh2 y q.z0 u2 [q.a,q.a++ [59]]:=e2
    have hO:=hTL.ol hbi
    obtain ⟨v',y',hr1,hO',hC',hr'⟩:=append_run (P:=Tryz.prog) (n:=78) (d:=37) (t:=82) (s:= .tmp 26) (x:= .tmp 36) (e:=(36,u2)::(26,q.vl):: [(2,q.va),(3,q.vn),(4,.slice (some ⟨bb,0,none⟩) 18 cb),(5,.slice (some ⟨bm,0,none⟩) 18 18),(6,q.vl),(7,q.vv),(8,.int .i64 ((q.i:Nat):Int))]) (by rfl) (by decide) rfl rfl hO e2.rd (by have:=h0.ll;have:=h0.vl;simp only [List.length_cons,List.length_nil];omega) (by have:=h0.ll;have:=h0.vl;simp only [List.length_cons,List.length_nil];omega)
    have hbz:11<bq.size:=by rw [hbsz];decide
    have hsm: ∀k,q.vl.ownBlock=some k→k<q.z0:=fun k hk=>by have:=h0.ol.lt hk;rw [h0.z0] at this;exact this
    have hG:Grown y' q.B q.z0 q.vl v' (q.L++ [q.a,q.a++ [59]]):=⟨by rw [List.length_append,cellsS_app];exact hO',fun k hk=>hr'.elim (fun h1=>(h0.gl k (h1▸hk)).1) (fun ⟨m,h1,h2⟩=>by rw [hk] at h1;cases h1;omega),hr'.imp id (fun ⟨m,h1,h2⟩=>⟨m,h1,by omega⟩)⟩
    refine ⟨37,rfl,wo_run (o:=⟨some 37,.call {callee:= .builtin .append,args:= #[.tmp 26,.tmp 36],argTypes:= #[82,82]},_,_,_,none⟩) rfl (want_L rfl) rfl ((hok'.cons hu1).cons hu2) hr1 ⟨_,rfl,(show Grown y' q.B q.z0 q.vl v' (q.L++ [q.a,q.a++ [59]]) from hG),⟨hTL.chg.trans hC' (fun k _ hk=> .inl hk),hTL.oa.chg hC' (fun k hk hs=>by have hk:some q.ba=some k:=hk;cases hk;exact (h0.gl q.ba hs).2 rfl),hTL.bn.chg hC' (fun hs=>by exact absurd ((h0.ol.blk hs).elim fun _ hb=>(hb.inj h0.bn).1) (by decide)),(fun h=>by rw [gd_eq (by omega)] at h;cases h),(fun h=>(hTL.ov (by rwa [gd_ne (by decide)] at h)).chg hC' (fun k hk hs=>by exact (h0.gv k hk).2.2 hs))⟩,?_⟩⟩
    exact fun j u h1 h3 h4=>G7.apl h0 hC' hsm hbi j u h1 h3 h4
   |12,_=>exact ⟨38,rfl,wo_pure rfl hok' rfl ⟨_,rfl,(show q.vv=q.vv from rfl),hno (by decide) (by decide) (Chg.refl _ _),fun j u _ _ h=>h⟩⟩
   |13,_=>exact ⟨39,rfl,wo_pure rfl hok' rfl ⟨_,rfl,(show q.vn=q.vn from rfl),hno (by decide) (by decide) (Chg.refl _ _),fun j u _ _ h=>h⟩⟩
   |14,_=>exact ⟨40,rfl,wo_pure rfl hok' rfl ⟨_,rfl,(show Value.int .i64 ((q.i:Nat):Int)=Value.int .i64 ((q.i:Nat):Int) from rfl),hno (by decide) (by decide) (Chg.refl _ _),fun j u _ _ h=>h⟩⟩
   |15,_=>
    obtain ⟨u1,hu1,eu1⟩:=g 13 (by kernel_rfl) _ rfl
    have eu1:u1=q.vn:=eu1
    subst eu1
    obtain ⟨u2,hu2,eu2⟩:=g 14 (by kernel_rfl) _ rfl
    have eu2:u2=Value.int .i64 ((q.i:Nat):Int):=eu2
    subst eu2
    exact ⟨41,rfl,wo_run rfl (want_L rfl) rfl ((hok'.cons hu1).cons hu2) (r_ia rfl rfl (by omega) (by have:=h0.il;have:=h0.iN;omega)) ⟨_,rfl,(show Value.pointer (some ⟨q.bn,0+((q.i:Nat):Int).toNat*1,none⟩)=Value.pointer (some ⟨q.bn,q.i,none⟩) by simp),hno (by decide) (by decide) (Chg.refl _ _),fun j u _ _ h=>h⟩⟩
   |16,_=>
    obtain ⟨u1,hu1,eu1⟩:=g 15 (by kernel_rfl) _ rfl
    have eu1:u1=Value.pointer (some ⟨q.bn,q.i,none⟩):=eu1
    subst eu1
    exact ⟨42,rfl,wo_run rfl (want_L rfl) rfl (hok'.cons hu1) (r_load1 rfl hcn) ⟨_,rfl,(show Value.int .i64 ((q.n:Nat):Int)=Value.int .i64 ((q.n:Nat):Int) from rfl),hno (by decide) (by decide) (Chg.refl _ _),fun j u _ _ h=>h⟩⟩
   |17,_=>
    obtain ⟨u1,hu1,eu1⟩:=g 16 (by kernel_rfl) _ rfl
    have eu1:u1=Value.int .i64 ((q.n:Nat):Int):=eu1
    subst eu1
    exact ⟨43,rfl,wo_run rfl (want_L rfl) rfl (hok'.cons hu1) (r_convI rfl (wrap_i32 (by omega) (by omega))) ⟨_,rfl,(show Value.int .i32 ((q.n:Nat):Int)=Value.int .i32 ((q.n:Nat):Int) from rfl),hno (by decide) (by decide) (Chg.refl _ _),fun j u _ _ h=>h⟩⟩
   |18,_=>
    obtain ⟨u1,hu1,eu1⟩:=g 17 (by kernel_rfl) _ rfl
    have eu1:u1=Value.int .i32 ((q.n:Nat):Int):=eu1
    subst eu1
    exact ⟨44,rfl,wo_run rfl (want_L rfl) rfl (hok'.cons hu1) (r_convS rfl) ⟨_,rfl,(show Value.string (Utf8.encode ((q.n:Nat):Int))=Value.string (bs (encL q.n)) by rw [bs_encL]),hno (by decide) (by decide) (Chg.refl _ _),fun j u _ _ h=>h⟩⟩
   |19,_=>exact ⟨45,rfl,wo_pure rfl hok' rfl ⟨_,rfl,(show q.vn=q.vn from rfl),hno (by decide) (by decide) (Chg.refl _ _),fun j u _ _ h=>h⟩⟩
   |20,_=>exact ⟨46,rfl,wo_pure rfl hok' rfl ⟨_,rfl,(show Value.int .i64 ((q.i:Nat):Int)=Value.int .i64 ((q.i:Nat):Int) from rfl),hno (by decide) (by decide) (Chg.refl _ _),fun j u _ _ h=>h⟩⟩
   |21,_=>
    obtain ⟨u1,hu1,eu1⟩:=g 19 (by kernel_rfl) _ rfl
    have eu1:u1=q.vn:=eu1
    subst eu1
    obtain ⟨u2,hu2,eu2⟩:=g 20 (by kernel_rfl) _ rfl
    have eu2:u2=Value.int .i64 ((q.i:Nat):Int):=eu2
    subst eu2
    exact ⟨47,rfl,wo_run rfl (want_L rfl) rfl ((hok'.cons hu1).cons hu2) (r_ia rfl rfl (by omega) (by have:=h0.il;have:=h0.iN;omega)) ⟨_,rfl,(show Value.pointer (some ⟨q.bn,0+((q.i:Nat):Int).toNat*1,none⟩)=Value.pointer (some ⟨q.bn,q.i,none⟩) by simp),hno (by decide) (by decide) (Chg.refl _ _),fun j u _ _ h=>h⟩⟩
   |22,_=>
    obtain ⟨u1,hu1,eu1⟩:=g 21 (by kernel_rfl) _ rfl
    have eu1:u1=Value.pointer (some ⟨q.bn,q.i,none⟩):=eu1
    subst eu1
    exact ⟨48,rfl,wo_run rfl (want_L rfl) rfl (hok'.cons hu1) (r_load1 rfl hcn) ⟨_,rfl,(show Value.int .i64 ((q.n:Nat):Int)=Value.int .i64 ((q.n:Nat):Int) from rfl),hno (by decide) (by decide) (Chg.refl _ _),fun j u _ _ h=>h⟩⟩
   |23,_=>
    obtain ⟨u1,hu1,eu1⟩:=g 22 (by kernel_rfl) _ rfl
    have eu1:u1=Value.int .i64 ((q.n:Nat):Int):=eu1
    subst eu1
    exact ⟨49,rfl,wo_run rfl (want_L rfl) rfl (hok'.cons hu1) (r_convI rfl (wrap_i32 (by omega) (by omega))) ⟨_,rfl,(show Value.int .i32 ((q.n:Nat):Int)=Value.int .i32 ((q.n:Nat):Int) from rfl),hno (by decide) (by decide) (Chg.refl _ _),fun j u _ _ h=>h⟩⟩
   |24,_=>
    obtain ⟨u1,hu1,eu1⟩:=g 23 (by kernel_rfl) _ rfl
    have eu1:u1=Value.int .i32 ((q.n:Nat):Int):=eu1
    subst eu1
    exact ⟨50,rfl,wo_run rfl (want_L rfl) rfl (hok'.cons hu1) (r_convS rfl) ⟨_,rfl,(show Value.string (Utf8.encode ((q.n:Nat):Int))=Value.string (bs (encL q.n)) by rw [bs_encL]),hno (by decide) (by decide) (Chg.refl _ _),fun j u _ _ h=>h⟩⟩
   |25,_=>
    obtain ⟨u1,hu1,eu1⟩:=g 18 (by kernel_rfl) _ rfl
    have eu1:u1=Value.string (bs (encL q.n)):=eu1
    subst eu1
    obtain ⟨u2,hu2,eu2⟩:=g 24 (by kernel_rfl) _ rfl
    have eu2:u2=Value.string (bs (encL q.n)):=eu2
    subst eu2
    have hN:=New.mk' y 9 (cellsS [encL q.n,encL q.n])
    exact ⟨51,rfl,wo_run rfl (want_L rfl) rfl ((hok'.cons hu1).cons hu2) (run_bsE (cellsS [encL q.n,encL q.n]) rfl (by decide) (by decide) (by kernel_rfl)) ⟨_,rfl,(show Fresh2 _ q.z0 _ [encL q.n,encL q.n] from ⟨_,rfl,hsz,hN.blk⟩),hno (by decide) (by decide) hN.chg,fun j u _ _ h=>G7.no hN.chg j u h⟩⟩
   |26,_=>
    obtain ⟨u1,hu1,eu1⟩:=g 12 (by kernel_rfl) _ rfl
    have eu1:u1=q.vv:=eu1
    subst eu1
    obtain ⟨u2,hu2,e2⟩:=g 25 (by kernel_rfl) _ rfl
    have e2:Fresh2 y q.z0 u2 [encL q.n,encL q.n]:=e2
    have hO:=hTL.ov hbi
    obtain ⟨v',y',hr1,hO',hC',hr'⟩:=append_run (P:=Tryz.prog) (n:=78) (d:=52) (t:=82) (s:= .tmp 38) (x:= .tmp 51) (e:=(51,u2)::(38,q.vv):: [(2,q.va),(3,q.vn),(4,.slice (some ⟨bb,0,none⟩) 18 cb),(5,.slice (some ⟨bm,0,none⟩) 18 18),(6,q.vl),(7,q.vv),(8,.int .i64 ((q.i:Nat):Int))]) (by rfl) (by decide) rfl rfl hO e2.rd (by have:=h0.ll;have:=h0.vl;simp only [List.length_cons,List.length_nil];omega) (by have:=h0.ll;have:=h0.vl;simp only [List.length_cons,List.length_nil];omega)
    have hbz:26<bq.size:=by rw [hbsz];decide
    have hsm: ∀k,q.vv.ownBlock=some k→k<q.z0:=fun k hk=>by have:=h0.ov.lt hk;rw [h0.z0] at this;exact this
    have hG:Grown y' q.B q.z0 q.vv v' (q.V++ [encL q.n,encL q.n]):=⟨by rw [List.length_append,cellsS_app];exact hO',fun k hk=>hr'.elim (fun h1=>(h0.gv k (h1▸hk)).1) (fun ⟨m,h1,h2⟩=>by rw [hk] at h1;cases h1;omega),hr'.imp id (fun ⟨m,h1,h2⟩=>⟨m,h1,by omega⟩)⟩
    refine ⟨52,rfl,wo_run (o:=⟨some 52,.call {callee:= .builtin .append,args:= #[.tmp 38,.tmp 51],argTypes:= #[82,82]},_,_,_,none⟩) rfl (want_L rfl) rfl ((hok'.cons hu1).cons hu2) hr1 ⟨_,rfl,(show Grown y' q.B q.z0 q.vv v' (q.V++ [encL q.n,encL q.n]) from hG),⟨hTL.chg.trans hC' (fun k _ hk=> .inr hk),hTL.oa.chg hC' (fun k hk hs=>by have hk:some q.ba=some k:=hk;cases hk;exact (h0.gv q.ba hs).2.1 rfl),hTL.bn.chg hC' (fun hs=>by exact absurd ((h0.ov.blk hs).elim fun _ hb=>(hb.inj h0.bn).1) (by decide)),(fun h=>(hTL.ol (by rwa [gd_ne (by decide)] at h)).chg hC' (fun k hk hs=>by exact (h0.gv k hs).2.2 hk)),(fun h=>by rw [gd_eq (by omega)] at h;cases h)⟩,?_⟩⟩
    exact fun j u h1 h3 h4=>G7.apv h0 hC' hsm hbi j u h1 h3 h4
   |_+27,h=>exact absurd h (by omega)
  ·intro bq a y hL
   obtain ⟨v1,hv1,e1⟩:=hL.dep 11 (by decide) _ rfl
   obtain ⟨v2,hv2,e2⟩:=hL.dep 26 (by decide) _ rfl
   have e1:Grown y q.B q.z0 q.vl v1 (q.L++ [q.a,q.a++ [59]]):=e1
   have e2:Grown y q.B q.z0 q.vv v2 (q.V++ [encL q.n,encL q.n]):=e2
   have hcy:=hL.t.chg
   rw [←hql,←hqv] at hcy
   rw [←hBB,←hz,←hql,←hLL] at e1
   rw [←hBB,←hz,←hqv,←hVV] at e2
   have hR2:=hR.next hcy e1 e2
   have hk:=(hL.ok.cons hv1).cons hv2
   rw [←hna,←hnb] at hR2
   refine ⟨wo_pure rfl hk rfl (wo_pure rfl (hk.put 6 v1 (by decide)) rfl (np_zk (e:= [(2,q.va),(3,q.vn),(4,.slice (some ⟨bb,0,none⟩) 18 cb),(5,.slice (some ⟨bm,0,none⟩) 18 18),(6,v1),(7,v2),(8,.int .i64 ((q.i:Nat):Int))]) ?_ (((hk.put 6 v1 (by decide)).put 7 v2 (by decide)).sub ⟨rfl,rfl,rfl,rfl,rfl,rfl,rfl,trivial⟩))),wo_pure rfl hk rfl (wo_pure rfl (hk.put 7 v2 (by decide)) rfl (np_zk (e:= [(2,q.va),(3,q.vn),(4,.slice (some ⟨bb,0,none⟩) 18 cb),(5,.slice (some ⟨bm,0,none⟩) 18 18),(6,v1),(7,v2),(8,.int .i64 ((q.i:Nat):Int))]) ?_ (((hk.put 7 v2 (by decide)).put 6 v1 (by decide)).sub ⟨rfl,rfl,rfl,rfl,rfl,rfl,rfl,trivial⟩)))⟩
   all_goals (rw [←hqa,←hqn,←hqi])
   all_goals (repeat' (first|refine za ?_|refine a_cutW rfl rfl rfl fun _ _=> ?_|refine a_catW rfl rfl fun _ _=> ?_|refine a_idxW rfl rfl fun _ _=> ?_|refine a_addW rfl rfl fun _ _=> ?_|refine a_subW rfl rfl fun _ _=> ?_|refine a_min rfl rfl fun _ _ _ _=> ?_|refine a_max rfl rfl fun _ _ _ _=> ?_|refine a_shr rfl rfl fun _ _=> ?_|refine a_and rfl rfl fun _ _=> ?_|refine a_cmp rfl rfl rfl (fun _=> ?_) fun _=> ?_|refine a_eq rfl rfl (fun _=> ?_) fun _=> ?_|refine a_ne rfl rfl (fun _=> ?_) fun _=> ?_))
   all_goals exact zk_loopW (i+1,v1,v2) ⟨by dsimp only;omega,hR2⟩ (by dsimp only;omega) ⟨rfl,rfl,rfl,rfl,rfl,rfl,get_int rfl (by dsimp only;omega),trivial⟩
 obtain rfl:i=13:=by omega
 refine zz ?_
 refine zc_loopW (ι:=Nat×Value×Value) (fun k u=> [(4,.slice (some ⟨bb,0,none⟩) 18 cb),(5,.slice (some ⟨bm,0,none⟩) 18 18),(6,k.2.1),(7,k.2.2),(9,.int .i64 (k.1:Nat))]) (fun k u=>k.1≤18∧AR w u ba ca bn bb cb bm k.2.1 k.2.2 (nmL k.1) (vaL k.1)) (fun k u=>18 - k.1) (0,vl,vv) ⟨Nat.zero_le _,hR⟩ ⟨rfl,rfl,rfl,rfl,rfl,trivial⟩ ?_
 clear hR hi hlt
 rintro ⟨i,vl,vv⟩ u ⟨hi,hR⟩
 dsimp only at hi hR ⊢
 by_cases hlt:i<18
 ·skip
  obtain ⟨q,hq⟩: ∃q:AP,q=⟨vl,vv,bb,cb,bm,i,u.heap.size,w.heap.size,loN,loV,nmL i,vaL i⟩:=⟨_,rfl⟩
  have h0:AT0 q u:=by
   rw [hq]
   exact ⟨by have:=hR.o2;unfold AP.va;dsimp only;rw [loN_len];exact this,hR.n2,hR.ol,hR.ov,rfl,fun k hk=>⟨(hR.gl k hk).1,(hR.gl k hk).2.2⟩,fun k hk=>⟨(hR.gv k hk).1,(hR.gv k hk).2.2,fun he=>own_apart hR.ol hR.ov hR.hl hR.hv (by decide) he hk⟩,by dsimp only;rw [loN_len];exact hlt,by dsimp only;exact hlt,lo_lt,loN_le,by dsimp only;rw [nmL_len];omega,by dsimp only;rw [vaL_len];omega⟩
  have hqa:Value.slice (some ⟨bb,0,none⟩) 18 cb=q.va:=by rw [hq];unfold AP.va;dsimp only;rw [loN_len]
  have hqn:Value.slice (some ⟨bm,0,none⟩) 18 18=q.vn:=by rw [hq];rfl
  have hql:vl=q.vl:=by rw [hq]
  have hqv:vv=q.vv:=by rw [hq]
  have hqi:i=q.i:=by rw [hq]
  have hz:u.heap.size=q.z0:=by rw [hq]
  have hBB:w.heap.size=q.B:=by rw [hq]
  have hLL:nmL i=q.L:=by rw [hq]
  have hVV:vaL i=q.V:=by rw [hq]
  have hna:loN.getD i []=q.a:=by rw [hq];rfl
  have hnb:encL (loV.getD i 0)=encL q.n:=by rw [hq];rfl
  have hB0:q.B≤q.z0:=by rw [←hBB,←hz];exact hR.chg.size
  have hal:q.a.length≤1000:=h0.al _ (getD_mem _ _ h0.il)
  have hnn:q.n<70000:=h0.nn _ (by unfold AP.n;rw [List.getD_eq_getElem?_getD,List.getElem?_eq_getElem h0.iN];exact List.getElem_mem h0.iN)
  refine zz ?_
  rw [hqa,hqn,hql,hqv,hqi]
  refine zc_draw2 17 (G11 q) (fun b w'=>ATW q u 7 16 b w') [(4,q.va),(5,q.vn),(6,q.vl),(7,q.vv),(9,.int .i64 ((q.i:Nat):Int))] (by rfl) (by kernel_rfl) (by kernel_rfl) ⟨rfl,rfl,rfl,rfl,rfl,trivial⟩ (fun w' hc _=>⟨hc.mono (fun _ _ h=>h.elim),h0.oa.no hc,h0.bn.no hc,fun _=>h0.ol.no hc,fun _=>h0.ov.no hc⟩) ?_ (by rfl) (fun b hcl hw j hj=>by
    have d0:=hw 0 (by kernel_rfl)
    have d1:=hw 1 (by kernel_rfl)
    have d2:=hw 2 (by kernel_rfl)
    have d3:=hw 3 (by kernel_rfl)
    have d4:=hw 4 (by kernel_rfl)
    have d5:=hw 5 (by kernel_rfl)
    have d6:=hw 6 (by kernel_rfl)
    have d7:=hw 7 (by kernel_rfl)
    have d16:=hw 16 (by kernel_rfl)
    have d8:=hcl 16 8 d16 (by kernel_rfl)
    have d15:=hcl 16 15 d16 (by kernel_rfl)
    have d14:=hcl 15 14 d15 (by kernel_rfl)
    have d13:=hcl 14 13 d14 (by kernel_rfl)
    have d12:=hcl 13 12 d13 (by kernel_rfl)
    have d11:=hcl 12 11 d12 (by kernel_rfl)
    have d9:=hcl 11 9 d11 (by kernel_rfl)
    have d10:=hcl 11 10 d11 (by kernel_rfl)
    match j,hj with
    |0,_=>exact d0
    |1,_=>exact d1
    |2,_=>exact d2
    |3,_=>exact d3
    |4,_=>exact d4
    |5,_=>exact d5
    |6,_=>exact d6
    |7,_=>exact d7
    |8,_=>exact d8
    |9,_=>exact d9
    |10,_=>exact d10
    |11,_=>exact d11
    |12,_=>exact d12
    |13,_=>exact d13
    |14,_=>exact d14
    |15,_=>exact d15
    |16,_=>exact d16
    |_+17,h=>exact absurd h (by omega)) (fun b hcl hw j hj=>by
    have d0:=hw 0 (by kernel_rfl)
    have d1:=hw 1 (by kernel_rfl)
    have d2:=hw 2 (by kernel_rfl)
    have d3:=hw 3 (by kernel_rfl)
    have d4:=hw 4 (by kernel_rfl)
    have d5:=hw 5 (by kernel_rfl)
    have d6:=hw 6 (by kernel_rfl)
    have d7:=hw 7 (by kernel_rfl)
    have d8:=hw 8 (by kernel_rfl)
    have d9:=hw 9 (by kernel_rfl)
    have d10:=hw 10 (by kernel_rfl)
    have d11:=hw 11 (by kernel_rfl)
    have d12:=hw 12 (by kernel_rfl)
    have d13:=hw 13 (by kernel_rfl)
    have d14:=hw 14 (by kernel_rfl)
    have d15:=hw 15 (by kernel_rfl)
    have d16:=hw 16 (by kernel_rfl)
    have d17:=hw 17 (by kernel_rfl)
    match j,hj with
    |0,_=>exact d0
    |1,_=>exact d1
    |2,_=>exact d2
    |3,_=>exact d3
    |4,_=>exact d4
    |5,_=>exact d5
    |6,_=>exact d6
    |7,_=>exact d7
    |8,_=>exact d8
    |9,_=>exact d9
    |10,_=>exact d10
    |11,_=>exact d11
    |12,_=>exact d12
    |13,_=>exact d13
    |14,_=>exact d14
    |15,_=>exact d15
    |16,_=>exact d16
    |_+17,h=>exact absurd h (by omega)) ?_
  ·intro i' hi' bq a y hbsz hbi hcl hL
   obtain ⟨hok',hTL,hd⟩:=hL
   have hi15:i'<17:=hi'
   have g: ∀j,waits _ i' j=true→ ∀dj,dstOf _ j=some dj→ ∃v,a.tmps[dj]? =some v∧G11 q j v y:=fun j hw dj hdj=>hd j hw dj hdj
   have hno: ∀{k:Nat} {y':World},k≠7→k≠16→Chg y y' No→ATW q u 7 16 (bq.setIfInBounds k true) y':=fun h1 h2 h3=>hTL.no h1 h2 h3
   have hca:y.cell? ⟨q.ba,q.i,none⟩=some (.string (bs q.a)):=by
    obtain ⟨_,h2⟩:=hTL.oa.cases
    rcases h2 with ⟨hv,_⟩|⟨b,cap,junk,hv,h3,h4,h5,h6⟩
    ·cases hv
    ·cases hv
     rw [h5.cell,List.getElem?_append_left (by rw [cellsS_len];exact h0.il)]
     exact cellsS_at q.A q.i h0.il
   have hcn:y.cell? ⟨q.bn,q.i,none⟩=some (.int .i64 ((q.n:Nat):Int)):=by rw [hTL.bn.cell];exact ints_at q.Nn q.i h0.iN
   have hsz:q.z0≤y.heap.size:=by rw [←h0.z0];exact hTL.chg.size
   match i',hi15 with
   |0,_=>exact ⟨59,rfl,wo_pure rfl hok' rfl ⟨_,rfl,(show q.vl=q.vl from rfl),hno (by decide) (by decide) (Chg.refl _ _),fun j u _ _ h=>h⟩⟩
   |1,_=>exact ⟨60,rfl,wo_pure rfl hok' rfl ⟨_,rfl,(show q.va=q.va from rfl),hno (by decide) (by decide) (Chg.refl _ _),fun j u _ _ h=>h⟩⟩
   |2,_=>exact ⟨61,rfl,wo_pure rfl hok' rfl ⟨_,rfl,(show Value.int .i64 ((q.i:Nat):Int)=Value.int .i64 ((q.i:Nat):Int) from rfl),hno (by decide) (by decide) (Chg.refl _ _),fun j u _ _ h=>h⟩⟩
   |3,_=>
    obtain ⟨u1,hu1,eu1⟩:=g 1 (by kernel_rfl) _ rfl
    have eu1:u1=q.va:=eu1
    subst eu1
    obtain ⟨u2,hu2,eu2⟩:=g 2 (by kernel_rfl) _ rfl
    have eu2:u2=Value.int .i64 ((q.i:Nat):Int):=eu2
    subst eu2
    exact ⟨62,rfl,wo_run rfl (want_L rfl) rfl ((hok'.cons hu1).cons hu2) (r_ia rfl rfl (by omega) (by have:=h0.il;have:=h0.iN;omega)) ⟨_,rfl,(show Value.pointer (some ⟨q.ba,0+((q.i:Nat):Int).toNat*1,none⟩)=Value.pointer (some ⟨q.ba,q.i,none⟩) by simp),hno (by decide) (by decide) (Chg.refl _ _),fun j u _ _ h=>h⟩⟩
   |4,_=>
    obtain ⟨u1,hu1,eu1⟩:=g 3 (by kernel_rfl) _ rfl
    have eu1:u1=Value.pointer (some ⟨q.ba,q.i,none⟩):=eu1
    subst eu1
    exact ⟨63,rfl,wo_run rfl (want_L rfl) rfl (hok'.cons hu1) (r_load1 rfl hca) ⟨_,rfl,(show Value.string (bs q.a)=Value.string (bs q.a) from rfl),hno (by decide) (by decide) (Chg.refl _ _),fun j u _ _ h=>h⟩⟩
   |5,_=>
    obtain ⟨u1,hu1,eu1⟩:=g 4 (by kernel_rfl) _ rfl
    have eu1:u1=Value.string (bs q.a):=eu1
    subst eu1
    exact ⟨64,rfl,wo_run rfl (want_L rfl) rfl (hok'.cons hu1) (r_catL (r:= [59]) rfl rfl (by simp only [List.length_cons,List.length_nil];omega)) ⟨_,rfl,(show Value.string (bs (q.a++ [59]))=Value.string (bs (q.a++ [59])) from rfl),hno (by decide) (by decide) (Chg.refl _ _),fun j u _ _ h=>h⟩⟩
   |6,_=>
    obtain ⟨u1,hu1,eu1⟩:=g 5 (by kernel_rfl) _ rfl
    have eu1:u1=Value.string (bs (q.a++ [59])):=eu1
    subst eu1
    have hN:=New.mk' y 9 (cellsS [q.a++ [59]])
    exact ⟨65,rfl,wo_run rfl (want_L rfl) rfl (hok'.cons hu1) (run_bsE (cellsS [q.a++ [59]]) rfl (by decide) (by decide) (by kernel_rfl)) ⟨_,rfl,(show Fresh2 _ q.z0 _ [q.a++ [59]] from ⟨_,rfl,hsz,hN.blk⟩),hno (by decide) (by decide) hN.chg,fun j u _ _ h=>G11.no hN.chg j u h⟩⟩
   |7,_=>
    obtain ⟨u1,hu1,eu1⟩:=g 0 (by kernel_rfl) _ rfl
    have eu1:u1=q.vl:=eu1
    subst eu1
    obtain ⟨u2,hu2,e2⟩:=g 6 (by kernel_rfl) _ rfl
    have e2:Fresh2 y q.z0 u2 [q.a++ [59]]:=e2
    have hO:=hTL.ol hbi
    obtain ⟨v',y',hr1,hO',hC',hr'⟩:=append_run (P:=Tryz.prog) (n:=78) (d:=66) (t:=82) (s:= .tmp 59) (x:= .tmp 65) (e:=(65,u2)::(59,q.vl):: [(4,q.va),(5,q.vn),(6,q.vl),(7,q.vv),(9,.int .i64 ((q.i:Nat):Int))]) (by rfl) (by decide) rfl rfl hO e2.rd (by have:=h0.ll;have:=h0.vl;simp only [List.length_cons,List.length_nil];omega) (by have:=h0.ll;have:=h0.vl;simp only [List.length_cons,List.length_nil];omega)
    have hbz:7<bq.size:=by rw [hbsz];decide
    have hsm: ∀k,q.vl.ownBlock=some k→k<q.z0:=fun k hk=>by have:=h0.ol.lt hk;rw [h0.z0] at this;exact this
    have hG:Grown y' q.B q.z0 q.vl v' (q.L++ [q.a++ [59]]):=⟨by rw [List.length_append,cellsS_app];exact hO',fun k hk=>hr'.elim (fun h1=>(h0.gl k (h1▸hk)).1) (fun ⟨m,h1,h2⟩=>by rw [hk] at h1;cases h1;omega),hr'.imp id (fun ⟨m,h1,h2⟩=>⟨m,h1,by omega⟩)⟩
    refine ⟨66,rfl,wo_run (o:=⟨some 66,.call {callee:= .builtin .append,args:= #[.tmp 59,.tmp 65],argTypes:= #[82,82]},_,_,_,none⟩) rfl (want_L rfl) rfl ((hok'.cons hu1).cons hu2) hr1 ⟨_,rfl,(show Grown y' q.B q.z0 q.vl v' (q.L++ [q.a++ [59]]) from hG),⟨hTL.chg.trans hC' (fun k _ hk=> .inl hk),hTL.oa.chg hC' (fun k hk hs=>by have hk:some q.ba=some k:=hk;cases hk;exact (h0.gl q.ba hs).2 rfl),hTL.bn.chg hC' (fun hs=>by exact absurd ((h0.ol.blk hs).elim fun _ hb=>(hb.inj h0.bn).1) (by decide)),(fun h=>by rw [gd_eq (by omega)] at h;cases h),(fun h=>(hTL.ov (by rwa [gd_ne (by decide)] at h)).chg hC' (fun k hk hs=>by exact (h0.gv k hk).2.2 hs))⟩,?_⟩⟩
    exact fun j u h1 h3 h4=>G11.apl h0 hC' hsm hbi j u h1 h3 h4
   |8,_=>exact ⟨67,rfl,wo_pure rfl hok' rfl ⟨_,rfl,(show q.vv=q.vv from rfl),hno (by decide) (by decide) (Chg.refl _ _),fun j u _ _ h=>h⟩⟩
   |9,_=>exact ⟨68,rfl,wo_pure rfl hok' rfl ⟨_,rfl,(show q.vn=q.vn from rfl),hno (by decide) (by decide) (Chg.refl _ _),fun j u _ _ h=>h⟩⟩
   |10,_=>exact ⟨69,rfl,wo_pure rfl hok' rfl ⟨_,rfl,(show Value.int .i64 ((q.i:Nat):Int)=Value.int .i64 ((q.i:Nat):Int) from rfl),hno (by decide) (by decide) (Chg.refl _ _),fun j u _ _ h=>h⟩⟩
   |11,_=>
    obtain ⟨u1,hu1,eu1⟩:=g 9 (by kernel_rfl) _ rfl
    have eu1:u1=q.vn:=eu1
    subst eu1
    obtain ⟨u2,hu2,eu2⟩:=g 10 (by kernel_rfl) _ rfl
    have eu2:u2=Value.int .i64 ((q.i:Nat):Int):=eu2
    subst eu2
    exact ⟨70,rfl,wo_run rfl (want_L rfl) rfl ((hok'.cons hu1).cons hu2) (r_ia rfl rfl (by omega) (by have:=h0.il;have:=h0.iN;omega)) ⟨_,rfl,(show Value.pointer (some ⟨q.bn,0+((q.i:Nat):Int).toNat*1,none⟩)=Value.pointer (some ⟨q.bn,q.i,none⟩) by simp),hno (by decide) (by decide) (Chg.refl _ _),fun j u _ _ h=>h⟩⟩
   |12,_=>
    obtain ⟨u1,hu1,eu1⟩:=g 11 (by kernel_rfl) _ rfl
    have eu1:u1=Value.pointer (some ⟨q.bn,q.i,none⟩):=eu1
    subst eu1
    exact ⟨71,rfl,wo_run rfl (want_L rfl) rfl (hok'.cons hu1) (r_load1 rfl hcn) ⟨_,rfl,(show Value.int .i64 ((q.n:Nat):Int)=Value.int .i64 ((q.n:Nat):Int) from rfl),hno (by decide) (by decide) (Chg.refl _ _),fun j u _ _ h=>h⟩⟩
   |13,_=>
    obtain ⟨u1,hu1,eu1⟩:=g 12 (by kernel_rfl) _ rfl
    have eu1:u1=Value.int .i64 ((q.n:Nat):Int):=eu1
    subst eu1
    exact ⟨72,rfl,wo_run rfl (want_L rfl) rfl (hok'.cons hu1) (r_convI rfl (wrap_i32 (by omega) (by omega))) ⟨_,rfl,(show Value.int .i32 ((q.n:Nat):Int)=Value.int .i32 ((q.n:Nat):Int) from rfl),hno (by decide) (by decide) (Chg.refl _ _),fun j u _ _ h=>h⟩⟩
   |14,_=>
    obtain ⟨u1,hu1,eu1⟩:=g 13 (by kernel_rfl) _ rfl
    have eu1:u1=Value.int .i32 ((q.n:Nat):Int):=eu1
    subst eu1
    exact ⟨73,rfl,wo_run rfl (want_L rfl) rfl (hok'.cons hu1) (r_convS rfl) ⟨_,rfl,(show Value.string (Utf8.encode ((q.n:Nat):Int))=Value.string (bs (encL q.n)) by rw [bs_encL]),hno (by decide) (by decide) (Chg.refl _ _),fun j u _ _ h=>h⟩⟩
   |15,_=>
    obtain ⟨u1,hu1,eu1⟩:=g 14 (by kernel_rfl) _ rfl
    have eu1:u1=Value.string (bs (encL q.n)):=eu1
    subst eu1
    have hN:=New.mk' y 9 (cellsS [encL q.n])
    exact ⟨74,rfl,wo_run rfl (want_L rfl) rfl (hok'.cons hu1) (run_bsE (cellsS [encL q.n]) rfl (by decide) (by decide) (by kernel_rfl)) ⟨_,rfl,(show Fresh2 _ q.z0 _ [encL q.n] from ⟨_,rfl,hsz,hN.blk⟩),hno (by decide) (by decide) hN.chg,fun j u _ _ h=>G11.no hN.chg j u h⟩⟩
   |16,_=>
    obtain ⟨u1,hu1,eu1⟩:=g 8 (by kernel_rfl) _ rfl
    have eu1:u1=q.vv:=eu1
    subst eu1
    obtain ⟨u2,hu2,e2⟩:=g 15 (by kernel_rfl) _ rfl
    have e2:Fresh2 y q.z0 u2 [encL q.n]:=e2
    have hO:=hTL.ov hbi
    obtain ⟨v',y',hr1,hO',hC',hr'⟩:=append_run (P:=Tryz.prog) (n:=78) (d:=75) (t:=82) (s:= .tmp 67) (x:= .tmp 74) (e:=(74,u2)::(67,q.vv):: [(4,q.va),(5,q.vn),(6,q.vl),(7,q.vv),(9,.int .i64 ((q.i:Nat):Int))]) (by rfl) (by decide) rfl rfl hO e2.rd (by have:=h0.ll;have:=h0.vl;simp only [List.length_cons,List.length_nil];omega) (by have:=h0.ll;have:=h0.vl;simp only [List.length_cons,List.length_nil];omega)
    have hbz:16<bq.size:=by rw [hbsz];decide
    have hsm: ∀k,q.vv.ownBlock=some k→k<q.z0:=fun k hk=>by have:=h0.ov.lt hk;rw [h0.z0] at this;exact this
    have hG:Grown y' q.B q.z0 q.vv v' (q.V++ [encL q.n]):=⟨by rw [List.length_append,cellsS_app];exact hO',fun k hk=>hr'.elim (fun h1=>(h0.gv k (h1▸hk)).1) (fun ⟨m,h1,h2⟩=>by rw [hk] at h1;cases h1;omega),hr'.imp id (fun ⟨m,h1,h2⟩=>⟨m,h1,by omega⟩)⟩
    refine ⟨75,rfl,wo_run (o:=⟨some 75,.call {callee:= .builtin .append,args:= #[.tmp 67,.tmp 74],argTypes:= #[82,82]},_,_,_,none⟩) rfl (want_L rfl) rfl ((hok'.cons hu1).cons hu2) hr1 ⟨_,rfl,(show Grown y' q.B q.z0 q.vv v' (q.V++ [encL q.n]) from hG),⟨hTL.chg.trans hC' (fun k _ hk=> .inr hk),hTL.oa.chg hC' (fun k hk hs=>by have hk:some q.ba=some k:=hk;cases hk;exact (h0.gv q.ba hs).2.1 rfl),hTL.bn.chg hC' (fun hs=>by exact absurd ((h0.ov.blk hs).elim fun _ hb=>(hb.inj h0.bn).1) (by decide)),(fun h=>(hTL.ol (by rwa [gd_ne (by decide)] at h)).chg hC' (fun k hk hs=>by exact (h0.gv k hs).2.2 hk)),(fun h=>by rw [gd_eq (by omega)] at h;cases h)⟩,?_⟩⟩
    exact fun j u h1 h3 h4=>G11.apv h0 hC' hsm hbi j u h1 h3 h4
   |_+17,h=>exact absurd h (by omega)
  ·intro bq a y hL
   obtain ⟨v1,hv1,e1⟩:=hL.dep 7 (by decide) _ rfl
   obtain ⟨v2,hv2,e2⟩:=hL.dep 16 (by decide) _ rfl
   have e1:Grown y q.B q.z0 q.vl v1 (q.L++ [q.a++ [59]]):=e1
   have e2:Grown y q.B q.z0 q.vv v2 (q.V++ [encL q.n]):=e2
   have hcy:=hL.t.chg
   rw [←hql,←hqv] at hcy
   rw [←hBB,←hz,←hql,←hLL] at e1
   rw [←hBB,←hz,←hqv,←hVV] at e2
   have hR2:=hR.next hcy e1 e2
   have hk:=(hL.ok.cons hv1).cons hv2
   rw [←hna,←hnb] at hR2
   refine ⟨wo_pure rfl hk rfl (wo_pure rfl (hk.put 6 v1 (by decide)) rfl (np_zk (e:= [(4,q.va),(5,q.vn),(6,v1),(7,v2),(9,.int .i64 ((q.i:Nat):Int))]) ?_ (((hk.put 6 v1 (by decide)).put 7 v2 (by decide)).sub ⟨rfl,rfl,rfl,rfl,rfl,trivial⟩))),wo_pure rfl hk rfl (wo_pure rfl (hk.put 7 v2 (by decide)) rfl (np_zk (e:= [(4,q.va),(5,q.vn),(6,v1),(7,v2),(9,.int .i64 ((q.i:Nat):Int))]) ?_ (((hk.put 7 v2 (by decide)).put 6 v1 (by decide)).sub ⟨rfl,rfl,rfl,rfl,rfl,trivial⟩)))⟩
   all_goals (rw [←hqa,←hqn,←hqi])
   all_goals (repeat' (first|refine za ?_|refine a_cutW rfl rfl rfl fun _ _=> ?_|refine a_catW rfl rfl fun _ _=> ?_|refine a_idxW rfl rfl fun _ _=> ?_|refine a_addW rfl rfl fun _ _=> ?_|refine a_subW rfl rfl fun _ _=> ?_|refine a_min rfl rfl fun _ _ _ _=> ?_|refine a_max rfl rfl fun _ _ _ _=> ?_|refine a_shr rfl rfl fun _ _=> ?_|refine a_and rfl rfl fun _ _=> ?_|refine a_cmp rfl rfl rfl (fun _=> ?_) fun _=> ?_|refine a_eq rfl rfl (fun _=> ?_) fun _=> ?_|refine a_ne rfl rfl (fun _=> ?_) fun _=> ?_))
   all_goals exact zk_loopW (i+1,v1,v2) ⟨by dsimp only;omega,hR2⟩ (by dsimp only;omega) ⟨rfl,rfl,rfl,rfl,get_int rfl (by dsimp only;omega),trivial⟩
 obtain rfl:i=18:=by omega
 have h1:=hR.ol
 have h2:=hR.ov
 rw [nmL_len] at h1
 rw [vaL_len] at h2
 refine zz ?_
 exact zk_ret2 (.inr rfl) rfl rfl rfl ⟨⟨vl,vv,rfl,h1,h2⟩,hR.chg⟩
theorem digit_calls {w:World} (c:Nat) (hc:c<256):Calls Tryz.prog 146 [.int .u8 c,.bool false].toArray w fun e w'=>e= .returned (.int .i64 (if 48≤c∧c≤57 then ((c:Int) - 48) else -1))∧w'=w:=by
 refine zCz 43 Tryz.func146 ?_
 by_cases h1:48≤c
 ·by_cases h2:c≤57
  ·rw [if_pos ⟨h1,h2⟩]
   refine zz ?_
   refine z_arith (k:= .u8) (c:=(c:Int) - 48) (.inr (.inl ⟨rfl,(wrap_u8 (by omega) (by omega)).symm⟩)) (want_L rfl) (by decide) rfl rfl ?_
   refine z_convI (want_L rfl) (by decide) rfl (wrap_i64 (by omega) (by omega)) ?_
   refine zz ?_
   exact zk_ret1 (.inr rfl) rfl rfl ⟨rfl,rfl⟩
  ·rw [if_neg (fun h=>h2 h.2)]
   refine zz ?_
   exact zk_ret1 (.inr rfl) rfl rfl ⟨rfl,rfl⟩
 ·rw [if_neg (fun h=>h1 h.1)]
  refine zz ?_
  exact zk_ret1 (.inr rfl) rfl rfl ⟨rfl,rfl⟩
theorem number13_calls {w:World}:Calls Tryz.prog 172 [.int .i64 13].toArray w fun e w'=>e= .returned (.string (bs [13]))∧w'=w:=by
 refine zCz 33 Tryz.func172 ?_
 refine zz ?_
 refine z_convI (j:=13) (want_L rfl) (by decide) rfl (by decide) ?_
 refine z_convS (want_L rfl) (by decide) rfl ?_
 rw [encode_low (by decide) (by decide)]
 refine zz ?_
 exact zk_ret1 (.inr rfl) rfl rfl ⟨rfl,rfl⟩
theorem number_calls {w:World} (r:List UInt8) (hr:r.length≤1000000000):Calls Tryz.prog 144 [.string (bs (38::35::49::51::59::r))].toArray w fun e w'=>e= .returned (.tuple #[.string (bs [13]),.int .i64 5])∧w'=w:=by
 obtain ⟨s,hs⟩: ∃s,s=38::35::49::51::59::r:=⟨_,rfl⟩
 have hl:s.length=r.length+5:=by rw [hs];simp
 have c2:Z.byteL s 2=49:=by rw [hs];rfl
 have c3:Z.byteL s 3=51:=by rw [hs];rfl
 have c4:Z.byteL s 4=59:=by rw [hs];rfl
 rw [←hs]
 refine zCz 66 Tryz.func144 ?_
 refine zz ?_
 rw [show Z.byteL s (1+1)=49 from c2]
 refine zz ?_
 rw [show Z.byteL s (1+1)=49 from c2]
 refine zz ?_
 refine zc_midBX (ι:=Unit) (fun _ u=>u=w) (fun _=> [(0,.string (bs s)),(4,.int .i64 4),(6,.int .i64 2),(7,.int .i64 13)]) ?_ ?_
 ·refine zc_loopW (ι:=Nat×Nat) (fun q u=> [(0,.string (bs s)),(4,.int .i64 (q.1:Nat)),(5,.int .i64 10),(6,.int .i64 2),(7,.int .i64 (q.2:Nat))]) (fun q u=>(q=(2,0)∨q=(3,1)∨q=(4,13))∧u=w) (fun q u=>5 - q.1) (2,0) ⟨.inl rfl,rfl⟩ ⟨rfl,rfl,rfl,rfl,rfl,trivial⟩ ?_
  rintro q u ⟨hq,hu⟩
  obtain rfl:=hu.symm
  rcases hq with rfl|rfl|rfl
  ·refine zz ?_
   rw [c2]
   refine zCp rfl (digit_calls 49 (by decide)) ?_
   refine zz ?_
   refine z_mul (want_L rfl) (by decide) rfl rfl (by decide) (by decide) ?_
   refine zz ?_
   rw [c2]
   refine zCp rfl (digit_calls 49 (by decide)) ?_
   refine zAd rfl rfl ?_
   refine z_minW (want_L rfl) (by decide) rfl rfl (fun c h1 h2 h3=> ?_)
   have hc:c=1:=by simp at h3 h1;omega
   subst hc
   refine zz ?_
   exact zk_loopW (3,1) ⟨.inr (.inl rfl),rfl⟩ (by decide) ⟨rfl,rfl,rfl,rfl,rfl,trivial⟩
  ·refine zz ?_
   rw [c3]
   refine zCp rfl (digit_calls 51 (by decide)) ?_
   refine zz ?_
   refine z_mul (want_L rfl) (by decide) rfl rfl (by decide) (by decide) ?_
   refine zz ?_
   rw [c3]
   refine zCp rfl (digit_calls 51 (by decide)) ?_
   refine zAd rfl rfl ?_
   refine z_minW (want_L rfl) (by decide) rfl rfl (fun c h1 h2 h3=> ?_)
   have hc:c=13:=by simp at h3 h1;omega
   subst hc
   refine zz ?_
   exact zk_loopW (4,13) ⟨.inr (.inr rfl),rfl⟩ (by decide) ⟨rfl,rfl,rfl,rfl,rfl,trivial⟩
  ·refine zz ?_
   rw [c4]
   refine zCp rfl (digit_calls 59 (by decide)) ?_
   refine zz ?_
   exact zk_midX () rfl ⟨rfl,rfl,rfl,rfl,trivial⟩
 rintro _ u hu
 obtain rfl:=hu.symm
 refine zz ?_
 rw [c4]
 refine zz ?_
 refine zCp rfl number13_calls ?_
 refine zz ?_
 exact zk_ret2 (.inr rfl) rfl rfl rfl ⟨rfl,rfl⟩
end Go.Proofs.YtbcmiijollpgeaaGreat.T
