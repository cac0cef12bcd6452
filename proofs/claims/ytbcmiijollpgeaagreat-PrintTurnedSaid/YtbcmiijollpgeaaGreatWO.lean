import Derived.Test.YtbcmiijollpgeaaGreatWN
set_option maxHeartbeats 32000000
set_option maxRecDepth 100000
set_option linter.unusedVariables false
set_option linter.unusedSimpArgs false
namespace Go.Proofs.YtbcmiijollpgeaaGreat.V
open Go Go.Z Go.Proofs T
theorem ev_ptr' {e:Env} {x:Operand} {b o o':Nat} (h:ev e x=some (.pointer (some ⟨b,o,none⟩))) (ho:o=o'):ev e x=some (.pointer (some ⟨b,o',none⟩)):=by rw [h,ho]
theorem run_storeB {P:Program} {w:World} {b o el s k t:Nat} {cs:List Value} {v z:Value} [hz:Inf P t 1 k z] (hb:BlkB w b el cs) (ho:o<cs.length) (h1:v.oneCell'=true) (hs:v.cells= #[v]):
  (Instr.storeAt t (.pointer (some ⟨b,o,none⟩)) v).run P w= .ok () (w.setRow b (cs.set o v).toArray):=by
 have hh:w.heap[b]? =some (.cells cs.toArray el (cs.length,cs.length+1)):=hb
 have hcell:w.cell? ⟨b,o,none⟩=some cs[o]:=by rw [hb.cell,List.getElem?_eq_getElem ho]
 have hfro:w.frozen? ⟨b,o,none⟩=false:=by
  simp only [World.frozen?,hh,Bool.and_eq_false_iff,decide_eq_false_iff_not];left;omega
 have hadd:(⟨b,o,none⟩:Addr).add 0=⟨b,o,none⟩:=rfl
 have hst:(store ((⟨b,o,none⟩:Addr).add 0) v).run P w= .ok () (w.setRow b (cs.set o v).toArray):=by
  rw [hadd,run_store P w _ v _ h1,hcell]
  simp [hfro,setCell_eq_setRow w b o cs.toArray el _ v hh]
 simp only [Instr.storeAt,Instr.sureAddr,storeVar,Sem.run_bind,Sem.run_pure,Result.andThen_ok,hz.size w]
 rw [if_neg (by simp [hs])]
 simp [hs,storeCells,hst]
theorem z_storeB {P:Program} {n:Nat} {e:Env} {w:World} {Q:Exit→Act→World→Prop} {ops:Array Oper} {rest:List Oper} {ty:TypeId} {pos:String} {aft:Array Edge} {g:Option (Nat×Bool)} {x y:Operand}
  {b o el k t:Nat} {cs:List Value} {v z:Value} [hz:Inf P t 1 k z] (hw:Want ops e g) (hx:ev e x=some (.pointer (some ⟨b,o,none⟩))) (hy:ev e y=some v) (hb:BlkB w b el cs) (ho:o<cs.length) (h1:v.oneCell'=true) (hs:v.cells= #[v])
  (h: ∀w',BlkB w' b el (cs.set o v)→Chg w w' (· =b)→ZL P n ops rest e w' Q):ZL P n ops (⟨none,.store t x y,ty,pos,aft,g⟩::rest) e w Q:=by
 refine zl_runU (w':=w.setRow b (cs.set o v).toArray) hw rfl (fun a ha=>by simp [execOp,ha.ev hx,ha.ev hy,run_storeB (s:=0) hb ho h1 hs]) (h _ ?_ ⟨rfl,rfl,rfl,by simp [World.setRow],fun j _ hj=>setRow_other w b j _ hj⟩)
 have:=setRow_heap w b _ (cs.set o v).toArray el _ hb
 unfold BlkB
 rw [this];simp
theorem cellsB_set (l:List UInt8) (k:Nat) (c:UInt8) (z:List Value) (h:k<l.length):(cellsB l++z).set k (.int .u8 c.toNat)=cellsB (l.set k c)++z:=by
 rw [List.set_append_left _ _ (by rw [cellsB_len];exact h)]
 simp [cellsB,List.map_set]
theorem cellsB_setN (l:List UInt8) (k:Nat) (c:Nat) (hc:c<256) (z:List Value) (h:k<l.length):(cellsB l++z).set k (.int .u8 c)=cellsB (l.set k (UInt8.ofNat c))++z:=by
 rw [←cellsB_set _ _ _ _ h]
 have:(UInt8.ofNat c).toNat=c:=by simp;omega
 rw [this]
theorem fold_calls {w:World} (l:List UInt8) (hl:l.length≤big):Calls Tryz.prog 76 [.string (bs l)].toArray w fun e w'=>(∃s:List UInt8,e= .returned (.string (bs s))∧s.length=l.length)∧Chg w w' No:=by
 have hbig:big=1000000000000:=rfl
 refine zCz 35 Tryz.func76 ?_
 refine zz ?_
 refine z_convSB (want_L rfl) (by decide) rfl (fun w1 b c z hb hC hB hc=> ?_)
 refine zz ?_
 refine zc_loopW (ι:=Nat×List UInt8) (fun q u=> [(3,.slice (some ⟨b,0,none⟩) l.length c),(4,.int .i64 (q.1:Nat))]) (fun q u=>q.1≤l.length∧Chg w u No∧q.2.length=l.length∧BlkB u b 5 (cellsB q.2++z)) (fun q u=>l.length - q.1) (0,l) ⟨Nat.zero_le _,hC,rfl,hB⟩ ?_ ?_
 ·exact ⟨rfl,rfl,trivial⟩
 rintro ⟨k,m⟩ u ⟨hk,hC,hm,hB⟩
 dsimp only at hk hm hB ⊢
 by_cases hkl:k<l.length
 ·have hcell:u.cell? ⟨b,k,none⟩=some (.int .u8 ((m.getD k 0).toNat:Nat)):=by
   rw [hB.cell,List.getElem?_append_left (by rw [cellsB_len,hm];exact hkl),cellsB_at _ k (by rw [hm];exact hkl)]
  have hb8:=byte_lt m k
  obtain ⟨cc,hcc⟩: ∃x,x=(m.getD k 0).toNat:=⟨_,rfl⟩
  rw [←hcc] at hcell hb8
  by_cases h65:65≤cc
  ·by_cases h90:cc≤90
   ·refine zz ?_
    refine zL1 rfl (cell_at hcell (by omega)) (zz ?_)
    refine zL1 rfl (cell_at hcell (by omega)) (zz ?_)
    refine zL1 rfl (cell_at hcell (by omega)) ?_
    refine z_addW (want_L rfl) (by decide) rfl rfl (fun c2 hc2=> ?_)
    refine zIa rfl rfl ?_
    refine z_storeB (o:=k) (want_L rfl) (ev_ptr' rfl (by omega)) rfl hB (by rw [List.length_append,cellsB_len,hm];omega) rfl rfl (fun u2 hB2 hC2=> ?_)
    rw [cellsB_setN _ _ _ hc2 _ (by rw [hm];exact hkl)] at hB2
    refine zz ?_
    exact zk_loopW (k+1,m.set k (UInt8.ofNat c2)) ⟨by dsimp only;omega,hC.trans hC2 (fun i hi he=>by subst he;omega),by dsimp only;rw [List.length_set];exact hm,hB2⟩ (by dsimp only;omega) ⟨rfl,get_int rfl (by dsimp only;omega),trivial⟩
   ·refine zz ?_
    refine zL1 rfl (cell_at hcell (by omega)) (zz ?_)
    refine zL1 rfl (cell_at hcell (by omega)) (zz ?_)
    exact zk_loopW (k+1,m) ⟨by dsimp only;omega,hC,hm,hB⟩ (by dsimp only;omega) ⟨rfl,get_int rfl (by dsimp only;omega),trivial⟩
  ·refine zz ?_
   refine zL1 rfl (cell_at hcell (by omega)) (zz ?_)
   exact zk_loopW (k+1,m) ⟨by dsimp only;omega,hC,hm,hB⟩ (by dsimp only;omega) ⟨rfl,get_int rfl (by dsimp only;omega),trivial⟩
 ·have hrb:=hB.rb (c:=c) (by omega)
  rw [hm] at hrb
  refine zz ?_
  refine z_convBS (want_L rfl) (by decide) rfl hrb ?_
  refine zz ?_
  exact zk_ret1 (.inr rfl) rfl rfl ⟨⟨_,rfl,hm⟩,hC⟩
theorem upTo_calls {w:World} (l p:List UInt8) (hl:l.length≤big) (hp:p.length≤big):Calls Tryz.prog 166 [.string (bs l),.string (bs p)].toArray w fun e w'=>(∃k:Nat,e= .returned (.int .i64 k)∧k≤l.length)∧w'=w:=by
 have hbig:big=1000000000000:=rfl
 refine zCz 23 Tryz.func166 ?_
 repeat' (first|refine za ?_|refine a_cutW rfl rfl rfl fun _ _=> ?_|refine a_catW rfl rfl fun _ _=> ?_|refine a_idxW rfl rfl fun _ _=> ?_|refine a_addW rfl rfl fun _ _=> ?_|refine a_subW rfl rfl fun _ _=> ?_|refine a_min rfl rfl fun _ _ _ _=> ?_|refine a_max rfl rfl fun _ _ _ _=> ?_|refine a_shr rfl rfl fun _ _=> ?_|refine a_and rfl rfl fun _ _=> ?_|refine a_cmp rfl rfl rfl (fun _=> ?_) fun _=> ?_|refine a_eq rfl rfl (fun _=> ?_) fun _=> ?_|refine a_ne rfl rfl (fun _=> ?_) fun _=> ?_)
 refine zc_loopW (ι:=Nat) (fun i u=> [(0,.string (bs l)),(1,.string (bs p)),(5,.int .i64 (i:Nat))]) (fun i u=>i≤l.length∧u=w) (fun i u=>l.length - i) 0 ⟨Nat.zero_le _,rfl⟩ ⟨rfl,rfl,rfl,trivial⟩ ?_
 rintro i u ⟨hi,hu⟩
 obtain rfl:=hu.symm
 by_cases hlt:i<l.length
 ·repeat' (first|refine za ?_|refine a_cutW rfl rfl rfl fun _ _=> ?_|refine a_catW rfl rfl fun _ _=> ?_|refine a_idxW rfl rfl fun _ _=> ?_|refine a_addW rfl rfl fun _ _=> ?_|refine a_subW rfl rfl fun _ _=> ?_|refine a_min rfl rfl fun _ _ _ _=> ?_|refine a_max rfl rfl fun _ _ _ _=> ?_|refine a_shr rfl rfl fun _ _=> ?_|refine a_and rfl rfl fun _ _=> ?_|refine a_cmp rfl rfl rfl (fun _=> ?_) fun _=> ?_|refine a_eq rfl rfl (fun _=> ?_) fun _=> ?_|refine a_ne rfl rfl (fun _=> ?_) fun _=> ?_)
  rename_i r hr
  refine zCl rfl (index_calls p r hp (by omega)) ?_
  rintro _ v ⟨⟨k,rfl,h1,h2,_⟩,hv⟩
  obtain rfl:=hv.symm
  refine ⟨_,rfl,?_⟩
  repeat' (first|refine za ?_|refine a_cutW rfl rfl rfl fun _ _=> ?_|refine a_catW rfl rfl fun _ _=> ?_|refine a_idxW rfl rfl fun _ _=> ?_|refine a_addW rfl rfl fun _ _=> ?_|refine a_subW rfl rfl fun _ _=> ?_|refine a_min rfl rfl fun _ _ _ _=> ?_|refine a_max rfl rfl fun _ _ _ _=> ?_|refine a_shr rfl rfl fun _ _=> ?_|refine a_and rfl rfl fun _ _=> ?_|refine a_cmp rfl rfl rfl (fun _=> ?_) fun _=> ?_|refine a_eq rfl rfl (fun _=> ?_) fun _=> ?_|refine a_ne rfl rfl (fun _=> ?_) fun _=> ?_)
  ·exact zk_ret1 (.inr rfl) rfl rfl ⟨⟨i,rfl,hi⟩,rfl⟩
  ·exact zk_loopW (i+1) ⟨by omega,rfl⟩ (by omega) ⟨rfl,rfl,get_int rfl (by omega),trivial⟩
 ·repeat' (first|refine za ?_|refine a_cutW rfl rfl rfl fun _ _=> ?_|refine a_catW rfl rfl fun _ _=> ?_|refine a_idxW rfl rfl fun _ _=> ?_|refine a_addW rfl rfl fun _ _=> ?_|refine a_subW rfl rfl fun _ _=> ?_|refine a_min rfl rfl fun _ _ _ _=> ?_|refine a_max rfl rfl fun _ _ _ _=> ?_|refine a_shr rfl rfl fun _ _=> ?_|refine a_and rfl rfl fun _ _=> ?_|refine a_cmp rfl rfl rfl (fun _=> ?_) fun _=> ?_|refine a_eq rfl rfl (fun _=> ?_) fun _=> ?_|refine a_ne rfl rfl (fun _=> ?_) fun _=> ?_)
  exact zk_ret1 (.inr rfl) rfl rfl ⟨⟨_,rfl,Nat.le_refl _⟩,rfl⟩
theorem dig_calls {w:World} (k:Nat) (hk:k≤1048576):Calls Tryz.prog 196 [.int .i64 k].toArray w fun e w'=>(∃s:List UInt8,e= .returned (.string (bs s))∧s.length≤1048580)∧w'=w:=by
 refine zCz 23 Tryz.func196 ?_
 repeat' (first|refine za ?_|refine a_cutW rfl rfl rfl fun _ _=> ?_|refine a_catW rfl rfl fun _ _=> ?_|refine a_idxW rfl rfl fun _ _=> ?_|refine a_addW rfl rfl fun _ _=> ?_|refine a_subW rfl rfl fun _ _=> ?_|refine a_min rfl rfl fun _ _ _ _=> ?_|refine a_max rfl rfl fun _ _ _ _=> ?_|refine a_shr rfl rfl fun _ _=> ?_|refine a_and rfl rfl fun _ _=> ?_|refine a_cmp rfl rfl rfl (fun _=> ?_) fun _=> ?_|refine a_eq rfl rfl (fun _=> ?_) fun _=> ?_|refine a_ne rfl rfl (fun _=> ?_) fun _=> ?_)
 refine zc_loopW (ι:=Nat×List UInt8) (fun q u=> [(0,.int .i64 (q.1:Nat)),(3,.string (bs q.2))]) (fun q u=>q.1+q.2.length≤1048576∧u=w) (fun q u=>q.1) (k,[]) ⟨hk,rfl⟩ ⟨rfl,rfl,trivial⟩ ?_
 rintro ⟨m,s⟩ u ⟨hm,hu⟩
 obtain rfl:=hu.symm
 dsimp only at hm ⊢
 by_cases h9:9<m
 ·refine zz ?_
  refine z_rem (want_L rfl) (by decide) rfl rfl (by decide) ?_
  have e10:(m:Int).tmod 10=((m%10:Nat):Int):=by rw [Int.tmod_eq_emod_of_nonneg (by omega)];omega
  rw [e10]
  repeat' (first|refine za ?_|refine a_cutW rfl rfl rfl fun _ _=> ?_|refine a_catW rfl rfl fun _ _=> ?_|refine a_idxW rfl rfl fun _ _=> ?_|refine a_addW rfl rfl fun _ _=> ?_|refine a_subW rfl rfl fun _ _=> ?_|refine a_min rfl rfl fun _ _ _ _=> ?_|refine a_max rfl rfl fun _ _ _ _=> ?_|refine a_shr rfl rfl fun _ _=> ?_|refine a_and rfl rfl fun _ _=> ?_|refine a_cmp rfl rfl rfl (fun _=> ?_) fun _=> ?_|refine a_eq rfl rfl (fun _=> ?_) fun _=> ?_|refine a_ne rfl rfl (fun _=> ?_) fun _=> ?_)
  refine z_quo (want_L rfl) (by decide) rfl rfl (by decide) ?_
  have e11:(m:Int).tdiv 10=((m / 10:Nat):Int):=by rw [Int.tdiv_eq_ediv_of_nonneg (by omega)];omega
  rw [e11,wrap_i64 (by omega) (by omega)]
  repeat' (first|refine za ?_|refine a_cutW rfl rfl rfl fun _ _=> ?_|refine a_catW rfl rfl fun _ _=> ?_|refine a_idxW rfl rfl fun _ _=> ?_|refine a_addW rfl rfl fun _ _=> ?_|refine a_subW rfl rfl fun _ _=> ?_|refine a_min rfl rfl fun _ _ _ _=> ?_|refine a_max rfl rfl fun _ _ _ _=> ?_|refine a_shr rfl rfl fun _ _=> ?_|refine a_and rfl rfl fun _ _=> ?_|refine a_cmp rfl rfl rfl (fun _=> ?_) fun _=> ?_|refine a_eq rfl rfl (fun _=> ?_) fun _=> ?_|refine a_ne rfl rfl (fun _=> ?_) fun _=> ?_)
  rename_i s2 hs2
  exact zk_loopW (m / 10,s2) ⟨by dsimp only;omega,rfl⟩ (by dsimp only;omega) ⟨rfl,rfl,trivial⟩
 ·repeat' (first|refine za ?_|refine a_cutW rfl rfl rfl fun _ _=> ?_|refine a_catW rfl rfl fun _ _=> ?_|refine a_idxW rfl rfl fun _ _=> ?_|refine a_addW rfl rfl fun _ _=> ?_|refine a_subW rfl rfl fun _ _=> ?_|refine a_min rfl rfl fun _ _ _ _=> ?_|refine a_max rfl rfl fun _ _ _ _=> ?_|refine a_shr rfl rfl fun _ _=> ?_|refine a_and rfl rfl fun _ _=> ?_|refine a_cmp rfl rfl rfl (fun _=> ?_) fun _=> ?_|refine a_eq rfl rfl (fun _=> ?_) fun _=> ?_|refine a_ne rfl rfl (fun _=> ?_) fun _=> ?_)
  rename_i s2 hs2
  exact zk_ret1 (.inr rfl) rfl rfl ⟨⟨_,rfl,by omega⟩,rfl⟩
theorem port_calls {w:World} (a p:List UInt8) (ha:a.length≤big) (hp:p.length≤big):Calls Tryz.prog 168 [.string (bs a),.string (bs p)].toArray w fun e w'=>(∃(k:Nat) (q:Bool),e= .returned (.tuple #[.int .i64 k,.bool q])∧k≤65535)∧w'=w:=by
 refine zCz 33 Tryz.func168 ?_
 repeat' (first|refine za ?_|refine a_cutW rfl rfl rfl fun _ _=> ?_|refine a_catW rfl rfl fun _ _=> ?_|refine a_idxW rfl rfl fun _ _=> ?_|refine a_addW rfl rfl fun _ _=> ?_|refine a_subW rfl rfl fun _ _=> ?_|refine a_min rfl rfl fun _ _ _ _=> ?_|refine a_max rfl rfl fun _ _ _ _=> ?_|refine a_shr rfl rfl fun _ _=> ?_|refine a_and rfl rfl fun _ _=> ?_|refine a_cmp rfl rfl rfl (fun _=> ?_) fun _=> ?_|refine a_eq rfl rfl (fun _=> ?_) fun _=> ?_|refine a_ne rfl rfl (fun _=> ?_) fun _=> ?_)
 ·exact zk_ret2 (.inr rfl) rfl rfl rfl ⟨⟨0,_,rfl,by omega⟩,rfl⟩
 ·refine zCl rfl (number_calls p hp) ?_
  rintro _ v ⟨⟨k,rfl,hk⟩,hv⟩
  obtain rfl:=hv.symm
  refine ⟨_,rfl,?_⟩
  repeat' (first|refine za ?_|refine a_cutW rfl rfl rfl fun _ _=> ?_|refine a_catW rfl rfl fun _ _=> ?_|refine a_idxW rfl rfl fun _ _=> ?_|refine a_addW rfl rfl fun _ _=> ?_|refine a_subW rfl rfl fun _ _=> ?_|refine a_min rfl rfl fun _ _ _ _=> ?_|refine a_max rfl rfl fun _ _ _ _=> ?_|refine a_shr rfl rfl fun _ _=> ?_|refine a_and rfl rfl fun _ _=> ?_|refine a_cmp rfl rfl rfl (fun _=> ?_) fun _=> ?_|refine a_eq rfl rfl (fun _=> ?_) fun _=> ?_|refine a_ne rfl rfl (fun _=> ?_) fun _=> ?_)
  refine zCl rfl (digits_calls p hp) ?_
  rintro _ v2 ⟨⟨q,rfl⟩,hv2⟩
  obtain rfl:=hv2.symm
  refine ⟨_,rfl,?_⟩
  cases q
  ·repeat' (first|refine za ?_|refine a_cutW rfl rfl rfl fun _ _=> ?_|refine a_catW rfl rfl fun _ _=> ?_|refine a_idxW rfl rfl fun _ _=> ?_|refine a_addW rfl rfl fun _ _=> ?_|refine a_subW rfl rfl fun _ _=> ?_|refine a_min rfl rfl fun _ _ _ _=> ?_|refine a_max rfl rfl fun _ _ _ _=> ?_|refine a_shr rfl rfl fun _ _=> ?_|refine a_and rfl rfl fun _ _=> ?_|refine a_cmp rfl rfl rfl (fun _=> ?_) fun _=> ?_|refine a_eq rfl rfl (fun _=> ?_) fun _=> ?_|refine a_ne rfl rfl (fun _=> ?_) fun _=> ?_)
   exact zk_ret2 (.inr rfl) rfl rfl rfl ⟨⟨0,_,rfl,by omega⟩,rfl⟩
  ·repeat' (first|refine za ?_|refine a_cutW rfl rfl rfl fun _ _=> ?_|refine a_catW rfl rfl fun _ _=> ?_|refine a_idxW rfl rfl fun _ _=> ?_|refine a_addW rfl rfl fun _ _=> ?_|refine a_subW rfl rfl fun _ _=> ?_|refine a_min rfl rfl fun _ _ _ _=> ?_|refine a_max rfl rfl fun _ _ _ _=> ?_|refine a_shr rfl rfl fun _ _=> ?_|refine a_and rfl rfl fun _ _=> ?_|refine a_cmp rfl rfl rfl (fun _=> ?_) fun _=> ?_|refine a_eq rfl rfl (fun _=> ?_) fun _=> ?_|refine a_ne rfl rfl (fun _=> ?_) fun _=> ?_)
   all_goals first|exact zk_ret2 (.inr rfl) rfl rfl rfl ⟨⟨0,_,rfl,by omega⟩,rfl⟩|exact zk_ret2 (.inr rfl) rfl rfl rfl ⟨⟨k,_,rfl,by omega⟩,rfl⟩
theorem dots_calls {w:World} (l:List UInt8) (hl:l.length≤big):Calls Tryz.prog 195 [.string (bs l)].toArray w fun e w'=>(∃k:Nat,e= .returned (.int .i64 k)∧k≤2)∧Chg w w' No:=by
 refine zCz 13 Tryz.func195 ?_
 repeat' (first|refine za ?_|refine a_cutW rfl rfl rfl fun _ _=> ?_|refine a_catW rfl rfl fun _ _=> ?_|refine a_idxW rfl rfl fun _ _=> ?_|refine a_addW rfl rfl fun _ _=> ?_|refine a_subW rfl rfl fun _ _=> ?_|refine a_min rfl rfl fun _ _ _ _=> ?_|refine a_max rfl rfl fun _ _ _ _=> ?_|refine a_shr rfl rfl fun _ _=> ?_|refine a_and rfl rfl fun _ _=> ?_|refine a_cmp rfl rfl rfl (fun _=> ?_) fun _=> ?_|refine a_eq rfl rfl (fun _=> ?_) fun _=> ?_|refine a_ne rfl rfl (fun _=> ?_) fun _=> ?_)
 refine zCl rfl (fold_calls l hl) ?_
 rintro _ v ⟨⟨s,rfl,hs⟩,hC⟩
 refine ⟨_,rfl,?_⟩
 repeat' (first|refine za ?_|refine a_cutW rfl rfl rfl fun _ _=> ?_|refine a_catW rfl rfl fun _ _=> ?_|refine a_idxW rfl rfl fun _ _=> ?_|refine a_addW rfl rfl fun _ _=> ?_|refine a_subW rfl rfl fun _ _=> ?_|refine a_min rfl rfl fun _ _ _ _=> ?_|refine a_max rfl rfl fun _ _ _ _=> ?_|refine a_shr rfl rfl fun _ _=> ?_|refine a_and rfl rfl fun _ _=> ?_|refine a_cmp rfl rfl rfl (fun _=> ?_) fun _=> ?_|refine a_eq rfl rfl (fun _=> ?_) fun _=> ?_|refine a_ne rfl rfl (fun _=> ?_) fun _=> ?_)
 all_goals first|exact zk_ret1 (.inr rfl) rfl rfl ⟨⟨0,rfl,by omega⟩,hC⟩|exact zk_ret1 (.inr rfl) rfl rfl ⟨⟨1,rfl,by omega⟩,hC⟩|exact zk_ret1 (.inr rfl) rfl rfl ⟨⟨2,rfl,by omega⟩,hC⟩
open Go Go.Z Go.Proofs T
theorem trimB_calls {w:World} (l:List UInt8) (hl:l.length≤big):Calls Tryz.prog 141 [.string (bs l)].toArray w fun e w'=>(∃s:List UInt8,e= .returned (.string (bs s))∧s.length≤l.length)∧w'=w:=by
 have hbig:big=1000000000000:=rfl
 refine zCz 34 Tryz.func141 ?_
 repeat' (first|refine za ?_|refine a_cutW rfl rfl rfl fun _ _=> ?_|refine a_catW rfl rfl fun _ _=> ?_|refine a_idxW rfl rfl fun _ _=> ?_|refine a_addW rfl rfl fun _ _=> ?_|refine a_subW rfl rfl fun _ _=> ?_|refine a_min rfl rfl fun _ _ _ _=> ?_|refine a_max rfl rfl fun _ _ _ _=> ?_|refine a_shr rfl rfl fun _ _=> ?_|refine a_and rfl rfl fun _ _=> ?_|refine a_cmp rfl rfl rfl (fun _=> ?_) fun _=> ?_|refine a_eq rfl rfl (fun _=> ?_) fun _=> ?_|refine a_ne rfl rfl (fun _=> ?_) fun _=> ?_)
 refine zc_midBX (ι:=Nat) (fun k u=>k≤l.length∧u=w) (fun k=> [(0,.string (bs l)),(3,.int .i64 k),(4,.int .i64 l.length)]) ?_ ?_
 ·refine zc_loopW (ι:=Nat) (fun i u=> [(0,.string (bs l)),(3,.int .i64 (i:Nat)),(4,.int .i64 l.length)]) (fun i u=>i≤l.length∧u=w) (fun i u=>l.length - i) 0 ⟨Nat.zero_le _,rfl⟩ ⟨rfl,rfl,rfl,trivial⟩ ?_
  rintro i u ⟨hi,hu⟩
  obtain rfl:=hu.symm
  by_cases hlt:i<l.length
  ·repeat' (first|refine za ?_|refine a_cutW rfl rfl rfl fun _ _=> ?_|refine a_catW rfl rfl fun _ _=> ?_|refine a_idxW rfl rfl fun _ _=> ?_|refine a_addW rfl rfl fun _ _=> ?_|refine a_subW rfl rfl fun _ _=> ?_|refine a_min rfl rfl fun _ _ _ _=> ?_|refine a_max rfl rfl fun _ _ _ _=> ?_|refine a_shr rfl rfl fun _ _=> ?_|refine a_and rfl rfl fun _ _=> ?_|refine a_cmp rfl rfl rfl (fun _=> ?_) fun _=> ?_|refine a_eq rfl rfl (fun _=> ?_) fun _=> ?_|refine a_ne rfl rfl (fun _=> ?_) fun _=> ?_)
   rename_i c hc
   refine zCp rfl (blankR_calls c) ?_
   cases blankN c
   ·repeat' (first|refine za ?_|refine a_cutW rfl rfl rfl fun _ _=> ?_|refine a_catW rfl rfl fun _ _=> ?_|refine a_idxW rfl rfl fun _ _=> ?_|refine a_addW rfl rfl fun _ _=> ?_|refine a_subW rfl rfl fun _ _=> ?_|refine a_min rfl rfl fun _ _ _ _=> ?_|refine a_max rfl rfl fun _ _ _ _=> ?_|refine a_shr rfl rfl fun _ _=> ?_|refine a_and rfl rfl fun _ _=> ?_|refine a_cmp rfl rfl rfl (fun _=> ?_) fun _=> ?_|refine a_eq rfl rfl (fun _=> ?_) fun _=> ?_|refine a_ne rfl rfl (fun _=> ?_) fun _=> ?_)
    exact zk_midX i ⟨hi,rfl⟩ ⟨rfl,rfl,rfl,trivial⟩
   ·repeat' (first|refine za ?_|refine a_cutW rfl rfl rfl fun _ _=> ?_|refine a_catW rfl rfl fun _ _=> ?_|refine a_idxW rfl rfl fun _ _=> ?_|refine a_addW rfl rfl fun _ _=> ?_|refine a_subW rfl rfl fun _ _=> ?_|refine a_min rfl rfl fun _ _ _ _=> ?_|refine a_max rfl rfl fun _ _ _ _=> ?_|refine a_shr rfl rfl fun _ _=> ?_|refine a_and rfl rfl fun _ _=> ?_|refine a_cmp rfl rfl rfl (fun _=> ?_) fun _=> ?_|refine a_eq rfl rfl (fun _=> ?_) fun _=> ?_|refine a_ne rfl rfl (fun _=> ?_) fun _=> ?_)
    exact zk_loopW (i+1) ⟨by omega,rfl⟩ (by omega) ⟨rfl,get_int rfl (by omega),rfl,trivial⟩
  ·repeat' (first|refine za ?_|refine a_cutW rfl rfl rfl fun _ _=> ?_|refine a_catW rfl rfl fun _ _=> ?_|refine a_idxW rfl rfl fun _ _=> ?_|refine a_addW rfl rfl fun _ _=> ?_|refine a_subW rfl rfl fun _ _=> ?_|refine a_min rfl rfl fun _ _ _ _=> ?_|refine a_max rfl rfl fun _ _ _ _=> ?_|refine a_shr rfl rfl fun _ _=> ?_|refine a_and rfl rfl fun _ _=> ?_|refine a_cmp rfl rfl rfl (fun _=> ?_) fun _=> ?_|refine a_eq rfl rfl (fun _=> ?_) fun _=> ?_|refine a_ne rfl rfl (fun _=> ?_) fun _=> ?_)
   exact zk_midX i ⟨hi,rfl⟩ ⟨rfl,rfl,rfl,trivial⟩
 rintro k u ⟨hk,hu⟩
 obtain rfl:=hu.symm
 repeat' (first|refine za ?_|refine a_cutW rfl rfl rfl fun _ _=> ?_|refine a_catW rfl rfl fun _ _=> ?_|refine a_idxW rfl rfl fun _ _=> ?_|refine a_addW rfl rfl fun _ _=> ?_|refine a_subW rfl rfl fun _ _=> ?_|refine a_min rfl rfl fun _ _ _ _=> ?_|refine a_max rfl rfl fun _ _ _ _=> ?_|refine a_shr rfl rfl fun _ _=> ?_|refine a_and rfl rfl fun _ _=> ?_|refine a_cmp rfl rfl rfl (fun _=> ?_) fun _=> ?_|refine a_eq rfl rfl (fun _=> ?_) fun _=> ?_|refine a_ne rfl rfl (fun _=> ?_) fun _=> ?_)
 refine zc_midBX (ι:=Nat) (fun m v=>k≤m∧m≤l.length∧v=w) (fun m=> [(0,.string (bs l)),(3,.int .i64 k),(4,.int .i64 m)]) ?_ ?_
 ·refine zc_loopW (ι:=Nat) (fun i u=> [(0,.string (bs l)),(3,.int .i64 k),(4,.int .i64 (i:Nat))]) (fun i u=>k≤i∧i≤l.length∧u=w) (fun i u=>i) l.length ⟨hk,Nat.le_refl _,rfl⟩ ⟨rfl,rfl,rfl,trivial⟩ ?_
  rintro i u ⟨hki,hi,hu⟩
  obtain rfl:=hu.symm
  by_cases hlt:k<i
  ·repeat' (first|refine za ?_|refine a_cutW rfl rfl rfl fun _ _=> ?_|refine a_catW rfl rfl fun _ _=> ?_|refine a_idxW rfl rfl fun _ _=> ?_|refine a_addW rfl rfl fun _ _=> ?_|refine a_subW rfl rfl fun _ _=> ?_|refine a_min rfl rfl fun _ _ _ _=> ?_|refine a_max rfl rfl fun _ _ _ _=> ?_|refine a_shr rfl rfl fun _ _=> ?_|refine a_and rfl rfl fun _ _=> ?_|refine a_cmp rfl rfl rfl (fun _=> ?_) fun _=> ?_|refine a_eq rfl rfl (fun _=> ?_) fun _=> ?_|refine a_ne rfl rfl (fun _=> ?_) fun _=> ?_)
   rename_i c hc
   refine zCp rfl (blankR_calls c) ?_
   cases blankN c
   ·repeat' (first|refine za ?_|refine a_cutW rfl rfl rfl fun _ _=> ?_|refine a_catW rfl rfl fun _ _=> ?_|refine a_idxW rfl rfl fun _ _=> ?_|refine a_addW rfl rfl fun _ _=> ?_|refine a_subW rfl rfl fun _ _=> ?_|refine a_min rfl rfl fun _ _ _ _=> ?_|refine a_max rfl rfl fun _ _ _ _=> ?_|refine a_shr rfl rfl fun _ _=> ?_|refine a_and rfl rfl fun _ _=> ?_|refine a_cmp rfl rfl rfl (fun _=> ?_) fun _=> ?_|refine a_eq rfl rfl (fun _=> ?_) fun _=> ?_|refine a_ne rfl rfl (fun _=> ?_) fun _=> ?_)
    exact zk_midX i ⟨hki,hi,rfl⟩ ⟨rfl,rfl,rfl,trivial⟩
   ·repeat' (first|refine za ?_|refine a_cutW rfl rfl rfl fun _ _=> ?_|refine a_catW rfl rfl fun _ _=> ?_|refine a_idxW rfl rfl fun _ _=> ?_|refine a_addW rfl rfl fun _ _=> ?_|refine a_subW rfl rfl fun _ _=> ?_|refine a_min rfl rfl fun _ _ _ _=> ?_|refine a_max rfl rfl fun _ _ _ _=> ?_|refine a_shr rfl rfl fun _ _=> ?_|refine a_and rfl rfl fun _ _=> ?_|refine a_cmp rfl rfl rfl (fun _=> ?_) fun _=> ?_|refine a_eq rfl rfl (fun _=> ?_) fun _=> ?_|refine a_ne rfl rfl (fun _=> ?_) fun _=> ?_)
    exact zk_loopW (i - 1) ⟨by omega,by omega,rfl⟩ (by omega) ⟨rfl,rfl,get_int rfl (by omega),trivial⟩
  ·repeat' (first|refine za ?_|refine a_cutW rfl rfl rfl fun _ _=> ?_|refine a_catW rfl rfl fun _ _=> ?_|refine a_idxW rfl rfl fun _ _=> ?_|refine a_addW rfl rfl fun _ _=> ?_|refine a_subW rfl rfl fun _ _=> ?_|refine a_min rfl rfl fun _ _ _ _=> ?_|refine a_max rfl rfl fun _ _ _ _=> ?_|refine a_shr rfl rfl fun _ _=> ?_|refine a_and rfl rfl fun _ _=> ?_|refine a_cmp rfl rfl rfl (fun _=> ?_) fun _=> ?_|refine a_eq rfl rfl (fun _=> ?_) fun _=> ?_|refine a_ne rfl rfl (fun _=> ?_) fun _=> ?_)
   exact zk_midX i ⟨hki,hi,rfl⟩ ⟨rfl,rfl,rfl,trivial⟩
 rintro m u ⟨hkm,hm,hu⟩
 obtain rfl:=hu.symm
 repeat' (first|refine za ?_|refine a_cutW rfl rfl rfl fun _ _=> ?_|refine a_catW rfl rfl fun _ _=> ?_|refine a_idxW rfl rfl fun _ _=> ?_|refine a_addW rfl rfl fun _ _=> ?_|refine a_subW rfl rfl fun _ _=> ?_|refine a_min rfl rfl fun _ _ _ _=> ?_|refine a_max rfl rfl fun _ _ _ _=> ?_|refine a_shr rfl rfl fun _ _=> ?_|refine a_and rfl rfl fun _ _=> ?_|refine a_cmp rfl rfl rfl (fun _=> ?_) fun _=> ?_|refine a_eq rfl rfl (fun _=> ?_) fun _=> ?_|refine a_ne rfl rfl (fun _=> ?_) fun _=> ?_)
 exact zk_ret1 (.inr rfl) rfl rfl ⟨⟨_,rfl,by omega⟩,rfl⟩
theorem trimU_calls {w:World} (l:List UInt8) (hl:l.length≤big):Calls Tryz.prog 165 [.string (bs l)].toArray w fun e w'=>(∃s:List UInt8,e= .returned (.string (bs s))∧s.length≤l.length)∧w'=w:=by
 have hbig:big=1000000000000:=rfl
 refine zCz 62 Tryz.func165 ?_
 repeat' (first|refine za ?_|refine a_cutW rfl rfl rfl fun _ _=> ?_|refine a_catW rfl rfl fun _ _=> ?_|refine a_idxW rfl rfl fun _ _=> ?_|refine a_addW rfl rfl fun _ _=> ?_|refine a_subW rfl rfl fun _ _=> ?_|refine a_min rfl rfl fun _ _ _ _=> ?_|refine a_max rfl rfl fun _ _ _ _=> ?_|refine a_shr rfl rfl fun _ _=> ?_|refine a_and rfl rfl fun _ _=> ?_|refine a_cmp rfl rfl rfl (fun _=> ?_) fun _=> ?_|refine a_eq rfl rfl (fun _=> ?_) fun _=> ?_|refine a_ne rfl rfl (fun _=> ?_) fun _=> ?_)
 refine zc_midBX (ι:=Nat) (fun k u=>k≤l.length∧u=w) (fun k=> [(0,.string (bs l)),(3,.int .i64 k),(4,.int .i64 l.length)]) ?_ ?_
 ·refine zc_loopW (ι:=Nat) (fun i u=> [(0,.string (bs l)),(3,.int .i64 (i:Nat)),(4,.int .i64 l.length)]) (fun i u=>i≤l.length∧u=w) (fun i u=>l.length - i) 0 ⟨Nat.zero_le _,rfl⟩ ⟨rfl,rfl,rfl,trivial⟩ ?_
  rintro i u ⟨hi,hu⟩
  obtain rfl:=hu.symm
  by_cases hlt:i<l.length
  ·repeat' (first|refine za ?_|refine a_cutW rfl rfl rfl fun _ _=> ?_|refine a_catW rfl rfl fun _ _=> ?_|refine a_idxW rfl rfl fun _ _=> ?_|refine a_addW rfl rfl fun _ _=> ?_|refine a_subW rfl rfl fun _ _=> ?_|refine a_min rfl rfl fun _ _ _ _=> ?_|refine a_max rfl rfl fun _ _ _ _=> ?_|refine a_shr rfl rfl fun _ _=> ?_|refine a_and rfl rfl fun _ _=> ?_|refine a_cmp rfl rfl rfl (fun _=> ?_) fun _=> ?_|refine a_eq rfl rfl (fun _=> ?_) fun _=> ?_|refine a_ne rfl rfl (fun _=> ?_) fun _=> ?_)
   ·exact zk_loopW (i+1) ⟨by omega,rfl⟩ (by omega) ⟨rfl,get_int rfl (by omega),rfl,trivial⟩
   ·exact zk_midX i ⟨hi,rfl⟩ ⟨rfl,rfl,rfl,trivial⟩
  ·repeat' (first|refine za ?_|refine a_cutW rfl rfl rfl fun _ _=> ?_|refine a_catW rfl rfl fun _ _=> ?_|refine a_idxW rfl rfl fun _ _=> ?_|refine a_addW rfl rfl fun _ _=> ?_|refine a_subW rfl rfl fun _ _=> ?_|refine a_min rfl rfl fun _ _ _ _=> ?_|refine a_max rfl rfl fun _ _ _ _=> ?_|refine a_shr rfl rfl fun _ _=> ?_|refine a_and rfl rfl fun _ _=> ?_|refine a_cmp rfl rfl rfl (fun _=> ?_) fun _=> ?_|refine a_eq rfl rfl (fun _=> ?_) fun _=> ?_|refine a_ne rfl rfl (fun _=> ?_) fun _=> ?_)
   exact zk_midX i ⟨hi,rfl⟩ ⟨rfl,rfl,rfl,trivial⟩
 rintro k u ⟨hk,hu⟩
 obtain rfl:=hu.symm
 repeat' (first|refine za ?_|refine a_cutW rfl rfl rfl fun _ _=> ?_|refine a_catW rfl rfl fun _ _=> ?_|refine a_idxW rfl rfl fun _ _=> ?_|refine a_addW rfl rfl fun _ _=> ?_|refine a_subW rfl rfl fun _ _=> ?_|refine a_min rfl rfl fun _ _ _ _=> ?_|refine a_max rfl rfl fun _ _ _ _=> ?_|refine a_shr rfl rfl fun _ _=> ?_|refine a_and rfl rfl fun _ _=> ?_|refine a_cmp rfl rfl rfl (fun _=> ?_) fun _=> ?_|refine a_eq rfl rfl (fun _=> ?_) fun _=> ?_|refine a_ne rfl rfl (fun _=> ?_) fun _=> ?_)
 refine zc_midBX (ι:=Nat) (fun m v=>k≤m∧m≤l.length∧v=w) (fun m=> [(0,.string (bs l)),(3,.int .i64 k),(4,.int .i64 m)]) ?_ ?_
 ·refine zc_loopW (ι:=Nat) (fun i u=> [(0,.string (bs l)),(3,.int .i64 k),(4,.int .i64 (i:Nat))]) (fun i u=>k≤i∧i≤l.length∧u=w) (fun i u=>i) l.length ⟨hk,Nat.le_refl _,rfl⟩ ⟨rfl,rfl,rfl,trivial⟩ ?_
  rintro i u ⟨hki,hi,hu⟩
  obtain rfl:=hu.symm
  by_cases hlt:k<i
  ·repeat' (first|refine za ?_|refine a_cutW rfl rfl rfl fun _ _=> ?_|refine a_catW rfl rfl fun _ _=> ?_|refine a_idxW rfl rfl fun _ _=> ?_|refine a_addW rfl rfl fun _ _=> ?_|refine a_subW rfl rfl fun _ _=> ?_|refine a_min rfl rfl fun _ _ _ _=> ?_|refine a_max rfl rfl fun _ _ _ _=> ?_|refine a_shr rfl rfl fun _ _=> ?_|refine a_and rfl rfl fun _ _=> ?_|refine a_cmp rfl rfl rfl (fun _=> ?_) fun _=> ?_|refine a_eq rfl rfl (fun _=> ?_) fun _=> ?_|refine a_ne rfl rfl (fun _=> ?_) fun _=> ?_)
   ·exact zk_loopW (i - 1) ⟨by omega,by omega,rfl⟩ (by omega) ⟨rfl,rfl,get_int rfl (by omega),trivial⟩
   ·exact zk_midX i ⟨hki,hi,rfl⟩ ⟨rfl,rfl,rfl,trivial⟩
  ·repeat' (first|refine za ?_|refine a_cutW rfl rfl rfl fun _ _=> ?_|refine a_catW rfl rfl fun _ _=> ?_|refine a_idxW rfl rfl fun _ _=> ?_|refine a_addW rfl rfl fun _ _=> ?_|refine a_subW rfl rfl fun _ _=> ?_|refine a_min rfl rfl fun _ _ _ _=> ?_|refine a_max rfl rfl fun _ _ _ _=> ?_|refine a_shr rfl rfl fun _ _=> ?_|refine a_and rfl rfl fun _ _=> ?_|refine a_cmp rfl rfl rfl (fun _=> ?_) fun _=> ?_|refine a_eq rfl rfl (fun _=> ?_) fun _=> ?_|refine a_ne rfl rfl (fun _=> ?_) fun _=> ?_)
   exact zk_midX i ⟨hki,hi,rfl⟩ ⟨rfl,rfl,rfl,trivial⟩
 rintro m u ⟨hkm,hm,hu⟩
 obtain rfl:=hu.symm
 repeat' (first|refine za ?_|refine a_cutW rfl rfl rfl fun _ _=> ?_|refine a_catW rfl rfl fun _ _=> ?_|refine a_idxW rfl rfl fun _ _=> ?_|refine a_addW rfl rfl fun _ _=> ?_|refine a_subW rfl rfl fun _ _=> ?_|refine a_min rfl rfl fun _ _ _ _=> ?_|refine a_max rfl rfl fun _ _ _ _=> ?_|refine a_shr rfl rfl fun _ _=> ?_|refine a_and rfl rfl fun _ _=> ?_|refine a_cmp rfl rfl rfl (fun _=> ?_) fun _=> ?_|refine a_eq rfl rfl (fun _=> ?_) fun _=> ?_|refine a_ne rfl rfl (fun _=> ?_) fun _=> ?_)
 refine zc_loopW (ι:=Nat×List UInt8) (fun q u=> [(0,.string (bs l)),(4,.int .i64 m),(5,.string (bs q.2)),(6,.int .i64 (q.1:Nat))]) (fun q u=>k≤q.1∧q.1≤m∧q.2.length≤q.1∧u=w) (fun q u=>m - q.1) (k,[]) ⟨Nat.le_refl _,hkm,Nat.zero_le _,rfl⟩ ⟨rfl,rfl,rfl,rfl,trivial⟩ ?_
 rintro ⟨i,o⟩ u ⟨hki,him,ho,hu⟩
 obtain rfl:=hu.symm
 dsimp only at hki him ho ⊢
 by_cases hlt:i<m
 ·repeat' (first|refine za ?_|refine a_cutW rfl rfl rfl fun _ _=> ?_|refine a_catW rfl rfl fun _ _=> ?_|refine a_idxW rfl rfl fun _ _=> ?_|refine a_addW rfl rfl fun _ _=> ?_|refine a_subW rfl rfl fun _ _=> ?_|refine a_min rfl rfl fun _ _ _ _=> ?_|refine a_max rfl rfl fun _ _ _ _=> ?_|refine a_shr rfl rfl fun _ _=> ?_|refine a_and rfl rfl fun _ _=> ?_|refine a_cmp rfl rfl rfl (fun _=> ?_) fun _=> ?_|refine a_eq rfl rfl (fun _=> ?_) fun _=> ?_|refine a_ne rfl rfl (fun _=> ?_) fun _=> ?_)
  all_goals first
   |(refine zk_loopW (i+1,o) ⟨by dsimp only;omega,by dsimp only;omega,by dsimp only;omega,rfl⟩ (by dsimp only;omega) ⟨rfl,rfl,rfl,get_int rfl (by dsimp only;omega),trivial⟩;done)
   |(rename_i s hs;exact zk_loopW (i+1,s) ⟨by dsimp only;omega,by dsimp only;omega,by dsimp only;omega,rfl⟩ (by dsimp only;omega) ⟨rfl,rfl,rfl,get_int rfl (by dsimp only;omega),trivial⟩)
 ·repeat' (first|refine za ?_|refine a_cutW rfl rfl rfl fun _ _=> ?_|refine a_catW rfl rfl fun _ _=> ?_|refine a_idxW rfl rfl fun _ _=> ?_|refine a_addW rfl rfl fun _ _=> ?_|refine a_subW rfl rfl fun _ _=> ?_|refine a_min rfl rfl fun _ _ _ _=> ?_|refine a_max rfl rfl fun _ _ _ _=> ?_|refine a_shr rfl rfl fun _ _=> ?_|refine a_and rfl rfl fun _ _=> ?_|refine a_cmp rfl rfl rfl (fun _=> ?_) fun _=> ?_|refine a_eq rfl rfl (fun _=> ?_) fun _=> ?_|refine a_ne rfl rfl (fun _=> ?_) fun _=> ?_)
  exact zk_ret1 (.inr rfl) rfl rfl ⟨⟨_,rfl,by omega⟩,rfl⟩
theorem safeU_calls {w:World} (l p:List UInt8) (hl:l.length≤100000000) (hp:p.length≤big):Calls Tryz.prog 169 [.string (bs l),.string (bs p)].toArray w fun e w'=>(∃s:List UInt8,e= .returned (.string (bs s))∧s.length≤3*l.length)∧w'=w:=by
 have hbig:big=1000000000000:=rfl
 refine zCz 67 Tryz.func169 ?_
 repeat' (first|refine za ?_|refine a_cutW rfl rfl rfl fun _ _=> ?_|refine a_catW rfl rfl fun _ _=> ?_|refine a_idxW rfl rfl fun _ _=> ?_|refine a_addW rfl rfl fun _ _=> ?_|refine a_subW rfl rfl fun _ _=> ?_|refine a_min rfl rfl fun _ _ _ _=> ?_|refine a_max rfl rfl fun _ _ _ _=> ?_|refine a_shr rfl rfl fun _ _=> ?_|refine a_and rfl rfl fun _ _=> ?_|refine a_cmp rfl rfl rfl (fun _=> ?_) fun _=> ?_|refine a_eq rfl rfl (fun _=> ?_) fun _=> ?_|refine a_ne rfl rfl (fun _=> ?_) fun _=> ?_)
 refine zc_loopW (ι:=Nat×List UInt8) (fun q u=> [(0,.string (bs l)),(1,.string (bs p)),(5,.string (bs q.2)),(6,.int .i64 (q.1:Nat))]) (fun q u=>q.1≤l.length∧q.2.length≤3*q.1∧u=w) (fun q u=>l.length - q.1) (0,[]) ⟨Nat.zero_le _,Nat.zero_le _,rfl⟩ ⟨rfl,rfl,rfl,rfl,trivial⟩ ?_
 rintro ⟨i,o⟩ u ⟨hi,ho,hu⟩
 obtain rfl:=hu.symm
 dsimp only at hi ho ⊢
 by_cases hlt:i<l.length
 ·repeat' (first|refine za ?_|refine a_cutW rfl rfl rfl fun _ _=> ?_|refine a_catW rfl rfl fun _ _=> ?_|refine a_idxW rfl rfl fun _ _=> ?_|refine a_addW rfl rfl fun _ _=> ?_|refine a_subW rfl rfl fun _ _=> ?_|refine a_min rfl rfl fun _ _ _ _=> ?_|refine a_max rfl rfl fun _ _ _ _=> ?_|refine a_shr rfl rfl fun _ _=> ?_|refine a_and rfl rfl fun _ _=> ?_|refine a_cmp rfl rfl rfl (fun _=> ?_) fun _=> ?_|refine a_eq rfl rfl (fun _=> ?_) fun _=> ?_|refine a_ne rfl rfl (fun _=> ?_) fun _=> ?_)
  all_goals try (refine zCl rfl (index_calls _ _ hp (by omega)) ?_;rintro _ v ⟨⟨k,rfl,h1,h2,_⟩,hv⟩;obtain rfl:=hv.symm;refine ⟨_,rfl,?_⟩;repeat' (first|refine za ?_|refine a_cutW rfl rfl rfl fun _ _=> ?_|refine a_catW rfl rfl fun _ _=> ?_|refine a_idxW rfl rfl fun _ _=> ?_|refine a_addW rfl rfl fun _ _=> ?_|refine a_subW rfl rfl fun _ _=> ?_|refine a_min rfl rfl fun _ _ _ _=> ?_|refine a_max rfl rfl fun _ _ _ _=> ?_|refine a_shr rfl rfl fun _ _=> ?_|refine a_and rfl rfl fun _ _=> ?_|refine a_cmp rfl rfl rfl (fun _=> ?_) fun _=> ?_|refine a_eq rfl rfl (fun _=> ?_) fun _=> ?_|refine a_ne rfl rfl (fun _=> ?_) fun _=> ?_))
  all_goals first
   |(rename_i s hs;exact zk_loopW (i+1,s) ⟨by dsimp only;omega,by dsimp only;omega,rfl⟩ (by dsimp only;omega) ⟨rfl,rfl,rfl,get_int rfl (by dsimp only;omega),trivial⟩)
   |(refine zCl rfl (sixteen_calls _ (by assumption)) ?_
     rintro _ v ⟨⟨s1,rfl,h1⟩,hv⟩
     obtain rfl:=hv.symm
     refine ⟨_,rfl,?_⟩
     repeat' (first|refine za ?_|refine a_cutW rfl rfl rfl fun _ _=> ?_|refine a_catW rfl rfl fun _ _=> ?_|refine a_idxW rfl rfl fun _ _=> ?_|refine a_addW rfl rfl fun _ _=> ?_|refine a_subW rfl rfl fun _ _=> ?_|refine a_min rfl rfl fun _ _ _ _=> ?_|refine a_max rfl rfl fun _ _ _ _=> ?_|refine a_shr rfl rfl fun _ _=> ?_|refine a_and rfl rfl fun _ _=> ?_|refine a_cmp rfl rfl rfl (fun _=> ?_) fun _=> ?_|refine a_eq rfl rfl (fun _=> ?_) fun _=> ?_|refine a_ne rfl rfl (fun _=> ?_) fun _=> ?_)
     refine zCl rfl (sixteen_calls _ (by assumption)) ?_
     rintro _ v ⟨⟨s2,rfl,h2⟩,hv⟩
     obtain rfl:=hv.symm
     refine ⟨_,rfl,?_⟩
     repeat' (first|refine za ?_|refine a_cutW rfl rfl rfl fun _ _=> ?_|refine a_catW rfl rfl fun _ _=> ?_|refine a_idxW rfl rfl fun _ _=> ?_|refine a_addW rfl rfl fun _ _=> ?_|refine a_subW rfl rfl fun _ _=> ?_|refine a_min rfl rfl fun _ _ _ _=> ?_|refine a_max rfl rfl fun _ _ _ _=> ?_|refine a_shr rfl rfl fun _ _=> ?_|refine a_and rfl rfl fun _ _=> ?_|refine a_cmp rfl rfl rfl (fun _=> ?_) fun _=> ?_|refine a_eq rfl rfl (fun _=> ?_) fun _=> ?_|refine a_ne rfl rfl (fun _=> ?_) fun _=> ?_)
     rename_i s hs
     exact zk_loopW (i+1,s) ⟨by dsimp only;omega,by dsimp only;omega,rfl⟩ (by dsimp only;omega) ⟨rfl,rfl,rfl,get_int rfl (by dsimp only;omega),trivial⟩)
 ·repeat' (first|refine za ?_|refine a_cutW rfl rfl rfl fun _ _=> ?_|refine a_catW rfl rfl fun _ _=> ?_|refine a_idxW rfl rfl fun _ _=> ?_|refine a_addW rfl rfl fun _ _=> ?_|refine a_subW rfl rfl fun _ _=> ?_|refine a_min rfl rfl fun _ _ _ _=> ?_|refine a_max rfl rfl fun _ _ _ _=> ?_|refine a_shr rfl rfl fun _ _=> ?_|refine a_and rfl rfl fun _ _=> ?_|refine a_cmp rfl rfl rfl (fun _=> ?_) fun _=> ?_|refine a_eq rfl rfl (fun _=> ?_) fun _=> ?_|refine a_ne rfl rfl (fun _=> ?_) fun _=> ?_)
  exact zk_ret1 (.inr rfl) rfl rfl ⟨⟨_,rfl,by omega⟩,rfl⟩
open Go Go.Z Go.Proofs T
structure Row (B:Nat) (w:World) (v:Value) (ss:List (List UInt8)) (m:Nat):Prop where
 own:Own w 9 1 v ss.length (cellsS ss)
 ge: ∀k,v.ownBlock=some k→B≤k
 le: ∀x∈ss,x.length≤m
theorem Row.nil {B m:Nat} {w:World}:Row B w (.slice none 0 0) [] m:=⟨Own.nil,(fun k hk=>by cases hk),(fun x hx=>by cases hx)⟩
theorem Row.no {B m:Nat} {w w':World} {v:Value} {ss:List (List UInt8)} (h:Row B w v ss m) (hc:Chg w w' No):Row B w' v ss m:=⟨h.own.no hc,h.ge,h.le⟩
theorem Row.cells {B m:Nat} {w:World} {v:Value} {ss:List (List UInt8)} (h:Row B w v ss m) (hp:0<ss.length): ∃b o c,v= .slice (some ⟨b,o,none⟩) ss.length c∧ss.length≤c∧ ∀j,j<ss.length→w.cell? ⟨b,o+j,none⟩=some (.string (bs (ss.getD j [])))∧(ss.getD j []).length≤m:=by
 obtain ⟨b,o,c,hv,hc,hcc⟩:=RdS.some h.own.rd hp
 refine ⟨b,o,c,hv,hc,fun j hj=>⟨hcc j _ (cellsS_at ss j hj),h.le _ (getD_mem ss j hj)⟩⟩
theorem z_rowpush {n:Nat} {e:Env} {w0 w:World} {Q:Exit→Act→World→Prop} {ops:Array Oper} {rest:List Oper} {d1 d2:Tmp} {ty1 ty2:TypeId} {pos1 pos2:String} {aft1 aft2:Array Edge} {g1 g2:Option (Nat×Bool)} {x s:Operand} {v:Value} {ss:List (List UInt8)} {m:Nat} {l:List UInt8}
  (hR:Row w0.heap.size w v ss m) (hC:Chg w0 w No) (hl:l.length≤m) (hn:ss.length≤1000000000) (hw1:Want ops e g1) (hd1:d1<n) (hx:ev e x=some (.string (bs l))) (hw2: ∀v,Want ops ((d1,v)::e) g2) (hd2:d2<n) (hs: ∀u,ev ((d1,u)::e) s=some v)
  (h: ∀v' w' b,Row w0.heap.size w' v' (ss++ [l]) m→Chg w0 w' No→ZL Tryz.prog n ops rest ((d2,v')::(d1,.slice (some ⟨b,0,none⟩) 1 1)::e) w' Q):
  ZL Tryz.prog n ops (⟨some d1,.buildSlice 82 1 #[(0,x)],ty1,pos1,aft1,g1⟩::⟨some d2,.call {callee:= .builtin .append,args:= #[s,.tmp d1],argTypes:= #[82,82]},ty2,pos2,aft2,g2⟩::rest) e w Q:=by
 refine z_bs1 hw1 hd1 hx (by rfl) (by rfl) (by decide) (by decide) (fun w1 b1 hN1=> ?_)
 have hr:RdS w1 9 1 (.slice (some ⟨b1,0,none⟩) 1 1) 1 (cellsS [l]):=RdS.new hN1 rfl (cellsS_one _)
 refine z_appendO (by rfl) (by decide) (hw2 _) hd2 (hs _) (by simp [ev,Env.get]) (hR.own.no hN1.chg) hr (by omega) (by omega) (fun v2 w2 hO2 hC2 hr2=> ?_)
 rw [←cellsS_app,show ss.length+1=(ss++ [l]).length by simp] at hO2
 have hv2:=rowge hR.ge hr2 (by have:=hC.size;have:=hN1.size;omega)
 exact h v2 w2 b1 ⟨hO2,hv2,fun y hy=>by
  rcases List.mem_append.1 hy with hy|hy
  ·exact hR.le y hy
  ·rw [List.mem_singleton] at hy;subst hy;exact hl⟩ ((hC.no hN1.chg).trans hC2 (fun j hj hs=>by have:=hR.ge j hs;omega))
theorem split_calls {w:World} (l p:List UInt8) (hl:l.length≤100000000):Calls Tryz.prog 190 [.string (bs l),.string (bs p)].toArray w fun e w'=>(∃v ss,e= .returned v∧Row w.heap.size w' v ss l.length∧0<ss.length∧ss.length≤l.length+1)∧Chg w w' No:=by
 refine zCz 36 Tryz.func190 ?_
 repeat' (first|refine za ?_|refine a_cutW rfl rfl rfl fun _ _=> ?_|refine a_catW rfl rfl fun _ _=> ?_|refine a_idxW rfl rfl fun _ _=> ?_|refine a_addW rfl rfl fun _ _=> ?_|refine a_subW rfl rfl fun _ _=> ?_|refine a_min rfl rfl fun _ _ _ _=> ?_|refine a_max rfl rfl fun _ _ _ _=> ?_|refine a_shr rfl rfl fun _ _=> ?_|refine a_and rfl rfl fun _ _=> ?_|refine a_cmp rfl rfl rfl (fun _=> ?_) fun _=> ?_|refine a_eq rfl rfl (fun _=> ?_) fun _=> ?_|refine a_ne rfl rfl (fun _=> ?_) fun _=> ?_)
 refine zc_loopW (ι:=Nat×Nat×Value×List (List UInt8)) (fun q u=> [(0,.string (bs l)),(1,.string (bs p)),(5,q.2.2.1),(6,.int .i64 (q.2.1:Nat)),(7,.int .i64 (q.1:Nat))])
  (fun q u=>q.1≤l.length∧q.2.1≤q.1∧q.2.2.2.length≤q.1∧Row w.heap.size u q.2.2.1 q.2.2.2 l.length∧Chg w u No) (fun q u=>l.length - q.1) (0,0,.slice none 0 0,[]) ⟨Nat.zero_le _,Nat.le_refl _,Nat.le_refl _,Row.nil,Chg.refl _ _⟩ ⟨rfl,rfl,rfl,rfl,rfl,trivial⟩ ?_
 rintro ⟨i,fr,v,ss⟩ u ⟨hi,hf,hs,hR,hC⟩
 dsimp only at hi hf hs hR ⊢
 by_cases hlt:i<l.length
 ·repeat' (first|refine za ?_|refine a_cutW rfl rfl rfl fun _ _=> ?_|refine a_catW rfl rfl fun _ _=> ?_|refine a_idxW rfl rfl fun _ _=> ?_|refine a_addW rfl rfl fun _ _=> ?_|refine a_subW rfl rfl fun _ _=> ?_|refine a_min rfl rfl fun _ _ _ _=> ?_|refine a_max rfl rfl fun _ _ _ _=> ?_|refine a_shr rfl rfl fun _ _=> ?_|refine a_and rfl rfl fun _ _=> ?_|refine a_cmp rfl rfl rfl (fun _=> ?_) fun _=> ?_|refine a_eq rfl rfl (fun _=> ?_) fun _=> ?_|refine a_ne rfl rfl (fun _=> ?_) fun _=> ?_)
  ·rename_i r hr
   refine z_rowpush hR hC (l:=r) (by omega) (by omega) (want_L rfl) (by decide) rfl (fun _=>(want_L rfl)) (by decide) (fun _=>rfl) (fun v2 u2 b2 hR2 hC2=> ?_)
   repeat' (first|refine za ?_|refine a_cutW rfl rfl rfl fun _ _=> ?_|refine a_catW rfl rfl fun _ _=> ?_|refine a_idxW rfl rfl fun _ _=> ?_|refine a_addW rfl rfl fun _ _=> ?_|refine a_subW rfl rfl fun _ _=> ?_|refine a_min rfl rfl fun _ _ _ _=> ?_|refine a_max rfl rfl fun _ _ _ _=> ?_|refine a_shr rfl rfl fun _ _=> ?_|refine a_and rfl rfl fun _ _=> ?_|refine a_cmp rfl rfl rfl (fun _=> ?_) fun _=> ?_|refine a_eq rfl rfl (fun _=> ?_) fun _=> ?_|refine a_ne rfl rfl (fun _=> ?_) fun _=> ?_)
   exact zk_loopW (i+1,i+1,v2,ss++ [r]) ⟨by dsimp only;omega,Nat.le_refl _,by dsimp only;rw [List.length_append,List.length_singleton];omega,hR2,hC2⟩ (by dsimp only;omega) ⟨rfl,rfl,rfl,get_int rfl (by dsimp only;omega),get_int rfl (by dsimp only;omega),trivial⟩
  ·exact zk_loopW (i+1,fr,v,ss) ⟨by dsimp only;omega,by dsimp only;omega,by dsimp only;omega,hR,hC⟩ (by dsimp only;omega) ⟨rfl,rfl,rfl,rfl,get_int rfl (by dsimp only;omega),trivial⟩
 ·repeat' (first|refine za ?_|refine a_cutW rfl rfl rfl fun _ _=> ?_|refine a_catW rfl rfl fun _ _=> ?_|refine a_idxW rfl rfl fun _ _=> ?_|refine a_addW rfl rfl fun _ _=> ?_|refine a_subW rfl rfl fun _ _=> ?_|refine a_min rfl rfl fun _ _ _ _=> ?_|refine a_max rfl rfl fun _ _ _ _=> ?_|refine a_shr rfl rfl fun _ _=> ?_|refine a_and rfl rfl fun _ _=> ?_|refine a_cmp rfl rfl rfl (fun _=> ?_) fun _=> ?_|refine a_eq rfl rfl (fun _=> ?_) fun _=> ?_|refine a_ne rfl rfl (fun _=> ?_) fun _=> ?_)
  rename_i r hr
  refine z_rowpush hR hC (l:=r) (by omega) (by omega) (want_L rfl) (by decide) rfl (fun _=>(want_L rfl)) (by decide) (fun _=>rfl) (fun v2 u2 b2 hR2 hC2=> ?_)
  repeat' (first|refine za ?_|refine a_cutW rfl rfl rfl fun _ _=> ?_|refine a_catW rfl rfl fun _ _=> ?_|refine a_idxW rfl rfl fun _ _=> ?_|refine a_addW rfl rfl fun _ _=> ?_|refine a_subW rfl rfl fun _ _=> ?_|refine a_min rfl rfl fun _ _ _ _=> ?_|refine a_max rfl rfl fun _ _ _ _=> ?_|refine a_shr rfl rfl fun _ _=> ?_|refine a_and rfl rfl fun _ _=> ?_|refine a_cmp rfl rfl rfl (fun _=> ?_) fun _=> ?_|refine a_eq rfl rfl (fun _=> ?_) fun _=> ?_|refine a_ne rfl rfl (fun _=> ?_) fun _=> ?_)
  exact zk_ret1 (.inr rfl) rfl rfl ⟨⟨v2,ss++ [r],rfl,hR2,by simp,by rw [List.length_append,List.length_singleton];omega⟩,hC2⟩
theorem host_calls {w:World} (l:List UInt8) (hl:l.length≤100000000):Calls Tryz.prog 167 [.string (bs l)].toArray w fun e w'=>(∃q:Bool,e= .returned (.bool q))∧Chg w w' No:=by
 have hbig:big=1000000000000:=rfl
 refine zCz 82 Tryz.func167 ?_
 repeat' (first|refine za ?_|refine a_cutW rfl rfl rfl fun _ _=> ?_|refine a_catW rfl rfl fun _ _=> ?_|refine a_idxW rfl rfl fun _ _=> ?_|refine a_addW rfl rfl fun _ _=> ?_|refine a_subW rfl rfl fun _ _=> ?_|refine a_min rfl rfl fun _ _ _ _=> ?_|refine a_max rfl rfl fun _ _ _ _=> ?_|refine a_shr rfl rfl fun _ _=> ?_|refine a_and rfl rfl fun _ _=> ?_|refine a_cmp rfl rfl rfl (fun _=> ?_) fun _=> ?_|refine a_eq rfl rfl (fun _=> ?_) fun _=> ?_|refine a_ne rfl rfl (fun _=> ?_) fun _=> ?_)
 refine zc_loopW (ι:=Nat) (fun i u=> [(0,.string (bs l)),(3,.int .i64 (i:Nat))]) (fun i u=>i≤l.length∧u=w) (fun i u=>l.length - i) 0 ⟨Nat.zero_le _,rfl⟩ ⟨rfl,rfl,trivial⟩ ?_
 rintro i u ⟨hi,hu⟩
 obtain rfl:=hu.symm
 by_cases hlt:i<l.length
 ·repeat' (first|refine za ?_|refine a_cutW rfl rfl rfl fun _ _=> ?_|refine a_catW rfl rfl fun _ _=> ?_|refine a_idxW rfl rfl fun _ _=> ?_|refine a_addW rfl rfl fun _ _=> ?_|refine a_subW rfl rfl fun _ _=> ?_|refine a_min rfl rfl fun _ _ _ _=> ?_|refine a_max rfl rfl fun _ _ _ _=> ?_|refine a_shr rfl rfl fun _ _=> ?_|refine a_and rfl rfl fun _ _=> ?_|refine a_cmp rfl rfl rfl (fun _=> ?_) fun _=> ?_|refine a_eq rfl rfl (fun _=> ?_) fun _=> ?_|refine a_ne rfl rfl (fun _=> ?_) fun _=> ?_)
  all_goals try (refine zCl rfl (digit_calls _ (by assumption)) ?_;rintro _ v ⟨⟨q,rfl,_⟩,hv⟩;obtain rfl:=hv.symm;refine ⟨_,rfl,?_⟩;cases q;all_goals (repeat' (first|refine za ?_|refine a_cutW rfl rfl rfl fun _ _=> ?_|refine a_catW rfl rfl fun _ _=> ?_|refine a_idxW rfl rfl fun _ _=> ?_|refine a_addW rfl rfl fun _ _=> ?_|refine a_subW rfl rfl fun _ _=> ?_|refine a_min rfl rfl fun _ _ _ _=> ?_|refine a_max rfl rfl fun _ _ _ _=> ?_|refine a_shr rfl rfl fun _ _=> ?_|refine a_and rfl rfl fun _ _=> ?_|refine a_cmp rfl rfl rfl (fun _=> ?_) fun _=> ?_|refine a_eq rfl rfl (fun _=> ?_) fun _=> ?_|refine a_ne rfl rfl (fun _=> ?_) fun _=> ?_)))
  all_goals first|exact zk_ret1 (.inr rfl) rfl rfl ⟨⟨_,rfl⟩,Chg.refl _ _⟩|exact zk_loopW (i+1) ⟨by omega,rfl⟩ (by omega) ⟨rfl,get_int rfl (by omega),trivial⟩
 repeat' (first|refine za ?_|refine a_cutW rfl rfl rfl fun _ _=> ?_|refine a_catW rfl rfl fun _ _=> ?_|refine a_idxW rfl rfl fun _ _=> ?_|refine a_addW rfl rfl fun _ _=> ?_|refine a_subW rfl rfl fun _ _=> ?_|refine a_min rfl rfl fun _ _ _ _=> ?_|refine a_max rfl rfl fun _ _ _ _=> ?_|refine a_shr rfl rfl fun _ _=> ?_|refine a_and rfl rfl fun _ _=> ?_|refine a_cmp rfl rfl rfl (fun _=> ?_) fun _=> ?_|refine a_eq rfl rfl (fun _=> ?_) fun _=> ?_|refine a_ne rfl rfl (fun _=> ?_) fun _=> ?_)
 refine zCl rfl (split_calls l [46] hl) ?_
 rintro _ w1 ⟨⟨v,ss,rfl,hR,hpos,hsl⟩,hC1⟩
 refine ⟨_,rfl,?_⟩
 obtain ⟨b,o,c,rfl,hc,hcell⟩:=hR.cells hpos
 obtain ⟨g1,g2⟩:=hcell (ss.length - 1) (by omega)
 repeat' (first|refine za ?_|refine a_cutW rfl rfl rfl fun _ _=> ?_|refine a_catW rfl rfl fun _ _=> ?_|refine a_idxW rfl rfl fun _ _=> ?_|refine a_addW rfl rfl fun _ _=> ?_|refine a_subW rfl rfl fun _ _=> ?_|refine a_min rfl rfl fun _ _ _ _=> ?_|refine a_max rfl rfl fun _ _ _ _=> ?_|refine a_shr rfl rfl fun _ _=> ?_|refine a_and rfl rfl fun _ _=> ?_|refine a_cmp rfl rfl rfl (fun _=> ?_) fun _=> ?_|refine a_eq rfl rfl (fun _=> ?_) fun _=> ?_|refine a_ne rfl rfl (fun _=> ?_) fun _=> ?_)
 refine zL1 rfl (cell_at g1 (by omega)) ?_
 repeat' (first|refine za ?_|refine a_cutW rfl rfl rfl fun _ _=> ?_|refine a_catW rfl rfl fun _ _=> ?_|refine a_idxW rfl rfl fun _ _=> ?_|refine a_addW rfl rfl fun _ _=> ?_|refine a_subW rfl rfl fun _ _=> ?_|refine a_min rfl rfl fun _ _ _ _=> ?_|refine a_max rfl rfl fun _ _ _ _=> ?_|refine a_shr rfl rfl fun _ _=> ?_|refine a_and rfl rfl fun _ _=> ?_|refine a_cmp rfl rfl rfl (fun _=> ?_) fun _=> ?_|refine a_eq rfl rfl (fun _=> ?_) fun _=> ?_|refine a_ne rfl rfl (fun _=> ?_) fun _=> ?_)
 refine zCl rfl (digits_calls _ (by omega)) ?_
 rintro _ v2 ⟨⟨q,rfl⟩,hv2⟩
 obtain rfl:=hv2.symm
 refine ⟨_,rfl,?_⟩
 cases q
 ·repeat' (first|refine za ?_|refine a_cutW rfl rfl rfl fun _ _=> ?_|refine a_catW rfl rfl fun _ _=> ?_|refine a_idxW rfl rfl fun _ _=> ?_|refine a_addW rfl rfl fun _ _=> ?_|refine a_subW rfl rfl fun _ _=> ?_|refine a_min rfl rfl fun _ _ _ _=> ?_|refine a_max rfl rfl fun _ _ _ _=> ?_|refine a_shr rfl rfl fun _ _=> ?_|refine a_and rfl rfl fun _ _=> ?_|refine a_cmp rfl rfl rfl (fun _=> ?_) fun _=> ?_|refine a_eq rfl rfl (fun _=> ?_) fun _=> ?_|refine a_ne rfl rfl (fun _=> ?_) fun _=> ?_)
  all_goals exact zk_ret1 (.inr rfl) rfl rfl ⟨⟨_,rfl⟩,hC1⟩
 by_cases h4:ss.length=4
 rotate_left
 ·repeat' (first|refine za ?_|refine a_cutW rfl rfl rfl fun _ _=> ?_|refine a_catW rfl rfl fun _ _=> ?_|refine a_idxW rfl rfl fun _ _=> ?_|refine a_addW rfl rfl fun _ _=> ?_|refine a_subW rfl rfl fun _ _=> ?_|refine a_min rfl rfl fun _ _ _ _=> ?_|refine a_max rfl rfl fun _ _ _ _=> ?_|refine a_shr rfl rfl fun _ _=> ?_|refine a_and rfl rfl fun _ _=> ?_|refine a_cmp rfl rfl rfl (fun _=> ?_) fun _=> ?_|refine a_eq rfl rfl (fun _=> ?_) fun _=> ?_|refine a_ne rfl rfl (fun _=> ?_) fun _=> ?_)
  all_goals exact zk_ret1 (.inr rfl) rfl rfl ⟨⟨_,rfl⟩,hC1⟩
 obtain ⟨a0,b0⟩:=hcell 0 (by omega)
 obtain ⟨a1,b1⟩:=hcell 1 (by omega)
 obtain ⟨a2,b2⟩:=hcell 2 (by omega)
 obtain ⟨a3,b3⟩:=hcell 3 (by omega)
 repeat' (first|refine za ?_|refine a_cutW rfl rfl rfl fun _ _=> ?_|refine a_catW rfl rfl fun _ _=> ?_|refine a_idxW rfl rfl fun _ _=> ?_|refine a_addW rfl rfl fun _ _=> ?_|refine a_subW rfl rfl fun _ _=> ?_|refine a_min rfl rfl fun _ _ _ _=> ?_|refine a_max rfl rfl fun _ _ _ _=> ?_|refine a_shr rfl rfl fun _ _=> ?_|refine a_and rfl rfl fun _ _=> ?_|refine a_cmp rfl rfl rfl (fun _=> ?_) fun _=> ?_|refine a_eq rfl rfl (fun _=> ?_) fun _=> ?_|refine a_ne rfl rfl (fun _=> ?_) fun _=> ?_)
 try refine zL1 rfl (cell_at a0 (by omega)) ?_
 refine zCl rfl (small12_calls _ (by omega)) ?_
 rintro _ v2 ⟨⟨q,rfl⟩,hv2⟩
 obtain rfl:=hv2.symm
 refine ⟨_,rfl,?_⟩
 cases q
 ·repeat' (first|refine za ?_|refine a_cutW rfl rfl rfl fun _ _=> ?_|refine a_catW rfl rfl fun _ _=> ?_|refine a_idxW rfl rfl fun _ _=> ?_|refine a_addW rfl rfl fun _ _=> ?_|refine a_subW rfl rfl fun _ _=> ?_|refine a_min rfl rfl fun _ _ _ _=> ?_|refine a_max rfl rfl fun _ _ _ _=> ?_|refine a_shr rfl rfl fun _ _=> ?_|refine a_and rfl rfl fun _ _=> ?_|refine a_cmp rfl rfl rfl (fun _=> ?_) fun _=> ?_|refine a_eq rfl rfl (fun _=> ?_) fun _=> ?_|refine a_ne rfl rfl (fun _=> ?_) fun _=> ?_)
  all_goals exact zk_ret1 (.inr rfl) rfl rfl ⟨⟨_,rfl⟩,hC1⟩
 repeat' (first|refine za ?_|refine a_cutW rfl rfl rfl fun _ _=> ?_|refine a_catW rfl rfl fun _ _=> ?_|refine a_idxW rfl rfl fun _ _=> ?_|refine a_addW rfl rfl fun _ _=> ?_|refine a_subW rfl rfl fun _ _=> ?_|refine a_min rfl rfl fun _ _ _ _=> ?_|refine a_max rfl rfl fun _ _ _ _=> ?_|refine a_shr rfl rfl fun _ _=> ?_|refine a_and rfl rfl fun _ _=> ?_|refine a_cmp rfl rfl rfl (fun _=> ?_) fun _=> ?_|refine a_eq rfl rfl (fun _=> ?_) fun _=> ?_|refine a_ne rfl rfl (fun _=> ?_) fun _=> ?_)
 try refine zL1 rfl (cell_at a1 (by omega)) ?_
 refine zCl rfl (small12_calls _ (by omega)) ?_
 rintro _ v2 ⟨⟨q,rfl⟩,hv2⟩
 obtain rfl:=hv2.symm
 refine ⟨_,rfl,?_⟩
 cases q
 ·repeat' (first|refine za ?_|refine a_cutW rfl rfl rfl fun _ _=> ?_|refine a_catW rfl rfl fun _ _=> ?_|refine a_idxW rfl rfl fun _ _=> ?_|refine a_addW rfl rfl fun _ _=> ?_|refine a_subW rfl rfl fun _ _=> ?_|refine a_min rfl rfl fun _ _ _ _=> ?_|refine a_max rfl rfl fun _ _ _ _=> ?_|refine a_shr rfl rfl fun _ _=> ?_|refine a_and rfl rfl fun _ _=> ?_|refine a_cmp rfl rfl rfl (fun _=> ?_) fun _=> ?_|refine a_eq rfl rfl (fun _=> ?_) fun _=> ?_|refine a_ne rfl rfl (fun _=> ?_) fun _=> ?_)
  all_goals exact zk_ret1 (.inr rfl) rfl rfl ⟨⟨_,rfl⟩,hC1⟩
 repeat' (first|refine za ?_|refine a_cutW rfl rfl rfl fun _ _=> ?_|refine a_catW rfl rfl fun _ _=> ?_|refine a_idxW rfl rfl fun _ _=> ?_|refine a_addW rfl rfl fun _ _=> ?_|refine a_subW rfl rfl fun _ _=> ?_|refine a_min rfl rfl fun _ _ _ _=> ?_|refine a_max rfl rfl fun _ _ _ _=> ?_|refine a_shr rfl rfl fun _ _=> ?_|refine a_and rfl rfl fun _ _=> ?_|refine a_cmp rfl rfl rfl (fun _=> ?_) fun _=> ?_|refine a_eq rfl rfl (fun _=> ?_) fun _=> ?_|refine a_ne rfl rfl (fun _=> ?_) fun _=> ?_)
 try refine zL1 rfl (cell_at a2 (by omega)) ?_
 refine zCl rfl (small12_calls _ (by omega)) ?_
 rintro _ v2 ⟨⟨q,rfl⟩,hv2⟩
 obtain rfl:=hv2.symm
 refine ⟨_,rfl,?_⟩
 cases q
 ·repeat' (first|refine za ?_|refine a_cutW rfl rfl rfl fun _ _=> ?_|refine a_catW rfl rfl fun _ _=> ?_|refine a_idxW rfl rfl fun _ _=> ?_|refine a_addW rfl rfl fun _ _=> ?_|refine a_subW rfl rfl fun _ _=> ?_|refine a_min rfl rfl fun _ _ _ _=> ?_|refine a_max rfl rfl fun _ _ _ _=> ?_|refine a_shr rfl rfl fun _ _=> ?_|refine a_and rfl rfl fun _ _=> ?_|refine a_cmp rfl rfl rfl (fun _=> ?_) fun _=> ?_|refine a_eq rfl rfl (fun _=> ?_) fun _=> ?_|refine a_ne rfl rfl (fun _=> ?_) fun _=> ?_)
  all_goals exact zk_ret1 (.inr rfl) rfl rfl ⟨⟨_,rfl⟩,hC1⟩
 repeat' (first|refine za ?_|refine a_cutW rfl rfl rfl fun _ _=> ?_|refine a_catW rfl rfl fun _ _=> ?_|refine a_idxW rfl rfl fun _ _=> ?_|refine a_addW rfl rfl fun _ _=> ?_|refine a_subW rfl rfl fun _ _=> ?_|refine a_min rfl rfl fun _ _ _ _=> ?_|refine a_max rfl rfl fun _ _ _ _=> ?_|refine a_shr rfl rfl fun _ _=> ?_|refine a_and rfl rfl fun _ _=> ?_|refine a_cmp rfl rfl rfl (fun _=> ?_) fun _=> ?_|refine a_eq rfl rfl (fun _=> ?_) fun _=> ?_|refine a_ne rfl rfl (fun _=> ?_) fun _=> ?_)
 try refine zL1 rfl (cell_at a3 (by omega)) ?_
 refine zCl rfl (small12_calls _ (by omega)) ?_
 rintro _ v2 ⟨⟨q,rfl⟩,hv2⟩
 obtain rfl:=hv2.symm
 refine ⟨_,rfl,?_⟩
 repeat' (first|refine za ?_|refine a_cutW rfl rfl rfl fun _ _=> ?_|refine a_catW rfl rfl fun _ _=> ?_|refine a_idxW rfl rfl fun _ _=> ?_|refine a_addW rfl rfl fun _ _=> ?_|refine a_subW rfl rfl fun _ _=> ?_|refine a_min rfl rfl fun _ _ _ _=> ?_|refine a_max rfl rfl fun _ _ _ _=> ?_|refine a_shr rfl rfl fun _ _=> ?_|refine a_and rfl rfl fun _ _=> ?_|refine a_cmp rfl rfl rfl (fun _=> ?_) fun _=> ?_|refine a_eq rfl rfl (fun _=> ?_) fun _=> ?_|refine a_ne rfl rfl (fun _=> ?_) fun _=> ?_)
 exact zk_ret1 (.inr rfl) rfl rfl ⟨⟨_,rfl⟩,hC1⟩
open Go Go.Z Go.Proofs T
theorem Row.form {B m:Nat} {w:World} {v:Value} {ss:List (List UInt8)} (h:Row B w v ss m): ∃A c,v= .slice A ss.length c∧ss.length≤c:=h.own.rd.form
def RW (w:World) (v:Value) (n m:Nat):Prop:= ∃b o c,v= .slice (some ⟨b,o,none⟩) n c∧n≤c∧ ∀j,j<n→ ∃t:List UInt8,w.cell? ⟨b,o+j,none⟩=some (.string (bs t))∧t.length≤m
theorem Row.rw {B m:Nat} {w:World} {v:Value} {ss:List (List UInt8)} (h:Row B w v ss m) (hp:0<ss.length):RW w v ss.length m:=by
 obtain ⟨b,o,c,h1,h2,h3⟩:=h.cells hp
 exact ⟨b,o,c,h1,h2,fun j hj=>⟨_,h3 j hj⟩⟩
section
variable {n : Nat} {e : Env} {w : World} {Q : Exit → Act → World → Prop} {ops : Array Oper} {rest : List Oper} {d : Tmp} {ty : TypeId} {pos : String} {aft : Array Edge} {g : Option (Nat × Bool)} {x : Operand} {v : Value}
theorem z_rowpop {B m:Nat} {ss:List (List UInt8)} {hi:Option Operand} (hR:Row B w v ss m) (hw:Want ops e g) (hdn:d<n) (hx:ev e x=some v) {j:Int} (hh:optI hi e ss.length=some j) (hj:j=((ss.length - 1:Nat):Int)) (h: ∀v',Row B w v' (ss.take (ss.length - 1)) m→ZL Tryz.prog n ops rest ((d,v')::e) w Q):
  ZL Tryz.prog n ops (⟨some d,.slice 82 x none hi none,ty,pos,aft,g⟩::rest) e w Q:=by
 subst hj
 obtain ⟨A,c,rfl,hc⟩:=hR.form
 have hl:(ss.take (ss.length - 1)).length=ss.length - 1:=by rw [List.length_take];omega
 have hO:=hR.own.take (ss.length - 1) (by omega)
 rw [Nat.mul_one,show (cellsS ss).take (ss.length - 1)=cellsS (ss.take (ss.length - 1)) by simp [cellsS]] at hO
 refine zl_run hw rfl hdn (r_cutTo hR.own.flat hx hh (by omega)) (h _ ⟨by rw [hl];exact hO,(fun k hk=>hR.ge k (by cases A<;>exact hk)),fun y hy=>hR.le y (List.mem_of_mem_take hy)⟩)
theorem z_rwfrom1 {k m:Nat} {lo:Option Operand} (hR:RW w v k m) (hk:1<k) (hw:Want ops e g) (hdn:d<n) (hx:ev e x=some v) (hl:optI lo e 0=some 1) (h: ∀v',RW w v' (k - 1) m→ZL Tryz.prog n ops rest ((d,v')::e) w Q):
  ZL Tryz.prog n ops (⟨some d,.slice 82 x lo none none,ty,pos,aft,g⟩::rest) e w Q:=by
 obtain ⟨b,o,c,rfl,h2,h3⟩:=hR
 refine zl_run hw rfl hdn (r_cutFrom (k:=1) hx hl (by omega) h2) (h _ ⟨b,o+1,c - 1,by rw [cutA_at (by omega)],by omega,fun j hj=> ?_⟩)
 rw [Nat.add_assoc]
 exact h3 (1+j) (by omega)
end
theorem path_calls {w:World} (l:List UInt8) (hl:l.length≤1000):Calls Tryz.prog 170 [.string (bs l)].toArray w fun e w'=>(∃s:List UInt8,e= .returned (.string (bs s))∧s.length≤1010000)∧Chg w w' No:=by
 have hbig:big=1000000000000:=rfl
 refine zCz 91 Tryz.func170 ?_
 repeat' (first|refine za ?_|refine a_cutW rfl rfl rfl fun _ _=> ?_|refine a_catW rfl rfl fun _ _=> ?_|refine a_idxW rfl rfl fun _ _=> ?_|refine a_addW rfl rfl fun _ _=> ?_|refine a_subW rfl rfl fun _ _=> ?_|refine a_min rfl rfl fun _ _ _ _=> ?_|refine a_max rfl rfl fun _ _ _ _=> ?_|refine a_shr rfl rfl fun _ _=> ?_|refine a_and rfl rfl fun _ _=> ?_|refine a_cmp rfl rfl rfl (fun _=> ?_) fun _=> ?_|refine a_eq rfl rfl (fun _=> ?_) fun _=> ?_|refine a_ne rfl rfl (fun _=> ?_) fun _=> ?_)
 refine zc_midBX (ι:=List UInt8) (fun s u=>s.length≤1000∧u=w) (fun s=> [(3,.string (bs s))]) ?_ ?_
 ·refine zc_loopW (ι:=Nat×List UInt8) (fun q u=> [(0,.string (bs l)),(3,.string (bs q.2)),(4,.int .i64 (q.1:Nat))]) (fun q u=>q.1≤l.length∧q.2.length≤q.1∧u=w) (fun q u=>l.length - q.1) (0,[]) ⟨Nat.zero_le _,Nat.zero_le _,rfl⟩ ⟨rfl,rfl,rfl,trivial⟩ ?_
  rintro ⟨i,o⟩ u ⟨hi,ho,hu⟩
  obtain rfl:=hu.symm
  dsimp only at hi ho ⊢
  by_cases hlt:i<l.length
  ·repeat' (first|refine za ?_|refine a_cutW rfl rfl rfl fun _ _=> ?_|refine a_catW rfl rfl fun _ _=> ?_|refine a_idxW rfl rfl fun _ _=> ?_|refine a_addW rfl rfl fun _ _=> ?_|refine a_subW rfl rfl fun _ _=> ?_|refine a_min rfl rfl fun _ _ _ _=> ?_|refine a_max rfl rfl fun _ _ _ _=> ?_|refine a_shr rfl rfl fun _ _=> ?_|refine a_and rfl rfl fun _ _=> ?_|refine a_cmp rfl rfl rfl (fun _=> ?_) fun _=> ?_|refine a_eq rfl rfl (fun _=> ?_) fun _=> ?_|refine a_ne rfl rfl (fun _=> ?_) fun _=> ?_)
   all_goals (rename_i s hs;exact zk_loopW (i+1,s) ⟨by dsimp only;omega,by dsimp only;omega,rfl⟩ (by dsimp only;omega) ⟨rfl,rfl,get_int rfl (by dsimp only;omega),trivial⟩)
  ·repeat' (first|refine za ?_|refine a_cutW rfl rfl rfl fun _ _=> ?_|refine a_catW rfl rfl fun _ _=> ?_|refine a_idxW rfl rfl fun _ _=> ?_|refine a_addW rfl rfl fun _ _=> ?_|refine a_subW rfl rfl fun _ _=> ?_|refine a_min rfl rfl fun _ _ _ _=> ?_|refine a_max rfl rfl fun _ _ _ _=> ?_|refine a_shr rfl rfl fun _ _=> ?_|refine a_and rfl rfl fun _ _=> ?_|refine a_cmp rfl rfl rfl (fun _=> ?_) fun _=> ?_|refine a_eq rfl rfl (fun _=> ?_) fun _=> ?_|refine a_ne rfl rfl (fun _=> ?_) fun _=> ?_)
   exact zk_midX o ⟨by omega,rfl⟩ ⟨rfl,trivial⟩
 rintro o u ⟨ho,hu⟩
 obtain rfl:=hu.symm
 repeat' (first|refine za ?_|refine a_cutW rfl rfl rfl fun _ _=> ?_|refine a_catW rfl rfl fun _ _=> ?_|refine a_idxW rfl rfl fun _ _=> ?_|refine a_addW rfl rfl fun _ _=> ?_|refine a_subW rfl rfl fun _ _=> ?_|refine a_min rfl rfl fun _ _ _ _=> ?_|refine a_max rfl rfl fun _ _ _ _=> ?_|refine a_shr rfl rfl fun _ _=> ?_|refine a_and rfl rfl fun _ _=> ?_|refine a_cmp rfl rfl rfl (fun _=> ?_) fun _=> ?_|refine a_eq rfl rfl (fun _=> ?_) fun _=> ?_|refine a_ne rfl rfl (fun _=> ?_) fun _=> ?_)
 refine zCl rfl (split_calls o [47] (by omega)) ?_
 rintro _ w1 ⟨⟨v,ss,rfl,hR,hpos,hsl⟩,hC1⟩
 refine ⟨_,rfl,?_⟩
 obtain ⟨A,c,rfl,hc⟩:=hR.form
 have hRW:=hR.rw hpos
 refine zP rfl (zN (zK ?_))
 refine zc_midX (ι:=Value×Nat) (fun q u=>RW u q.1 q.2 o.length∧0<q.2∧q.2≤ss.length∧u=w1) (fun q=> [(5,q.1)]) ?_ ?_
 ·by_cases h1:1<ss.length
  ·refine zz ?_
   refine z_rwfrom1 hRW h1 (want_L rfl) (by decide) rfl rfl (fun v2 hRW2=> ?_)
   refine zP rfl (zN ?_)
   exact zk_midX (v2,ss.length - 1) ⟨hRW2,by dsimp only;omega,by dsimp only;omega,rfl⟩ ⟨rfl,trivial⟩
  ·refine zz ?_
   exact zk_midX (_,ss.length) ⟨hRW,hpos,Nat.le_refl _,rfl⟩ ⟨rfl,trivial⟩
 rintro ⟨v,n⟩ u ⟨hRW,hn0,hns,hu⟩
 obtain rfl:=hu.symm
 dsimp only at hRW hn0 hns ⊢
 obtain ⟨b5,o5,c5,rfl,hc5,hcell⟩:=hRW
 refine zz ?_
 refine zc_midBX (ι:=Value×List (List UInt8)) (fun q u=>Row w1.heap.size u q.1 q.2 1000∧q.2.length≤1001∧Chg w1 u No) (fun q=> [(6,q.1)]) ?_ ?_
 ·refine zc_loopW (ι:=Nat×Value×List (List UInt8)) (fun q u=> [(5,.slice (some ⟨b5,o5,none⟩) n c5),(6,q.2.1),(7,.int .i64 (q.1:Nat))])
   (fun q u=>q.1≤n∧q.2.2.length≤q.1∧Row w1.heap.size u q.2.1 q.2.2 1000∧Chg w1 u No) (fun q u=>n - q.1) (0,.slice none 0 0,[]) ⟨Nat.zero_le _,Nat.le_refl _,Row.nil,Chg.refl _ _⟩ ⟨rfl,rfl,rfl,trivial⟩ ?_
  rintro ⟨i,v6,ls⟩ u ⟨hi,hls,hR6,hC⟩
  dsimp only at hi hls hR6 ⊢
  obtain ⟨A6,c6,rfl,hc6⟩:=hR6.form
  by_cases hlt:i<n
  ·obtain ⟨t,ht,htl⟩:=hcell i hlt
   have ht1:=cell_keep hC ht
   refine zz ?_
   refine zL1 rfl (cell_at ht1 (by omega)) ?_
   refine zCl rfl (dots_calls t (by omega)) ?_
   rintro _ u2 ⟨⟨k,rfl,hk⟩,hC2⟩
   refine ⟨_,rfl,?_⟩
   have hR2:=hR6.no hC2
   have hC02:Chg w1 u2 No:=hC.no hC2
   have ht2:=cell_keep hC2 ht1
   refine zP rfl (zN (zK ?_))
   refine zc_midX (ι:=Value×List (List UInt8)) (fun q u'=>Row w1.heap.size u' q.1 q.2 1000∧q.2.length≤ls.length∧u'=u2) (fun q=> [(5,.slice (some ⟨b5,o5,none⟩) n c5),(6,q.1),(7,.int .i64 (i:Nat)),(8,.int .i64 (k:Nat))]) ?_ ?_
   ·by_cases h2:k=2∧0<ls.length
    ·obtain ⟨h21,h22⟩:=h2
     subst h21
     refine zz ?_
     refine z_rowpop hR2 (want_L rfl) (by decide) rfl rfl (by omega) (fun v3 hR3=> ?_)
     refine zP rfl (zN ?_)
     exact zk_midX (v3,ls.take (ls.length - 1)) ⟨hR3,by dsimp only;rw [List.length_take];omega,rfl⟩ ⟨rfl,rfl,rfl,rfl,trivial⟩
    ·by_cases h3:k=2
     ·subst h3
      refine zz ?_
      exact zk_midX (_,ls) ⟨hR2,Nat.le_refl _,rfl⟩ ⟨rfl,rfl,rfl,rfl,trivial⟩
     ·refine zz ?_
      exact zk_midX (_,ls) ⟨hR2,Nat.le_refl _,rfl⟩ ⟨rfl,rfl,rfl,rfl,trivial⟩
   rintro ⟨v7,ls7⟩ u3 ⟨hR7,hls7,hu3⟩
   obtain rfl:=hu3.symm
   dsimp only at hR7 hls7 ⊢
   by_cases hk0:k=0
   ·subst hk0
    refine zz ?_
    refine zL1 rfl (cell_at ht2 (by omega)) ?_
    refine z_rowpush hR7 hC02 (l:=t) (by omega) (by omega) (want_L rfl) (by decide) rfl (fun _=>(want_L rfl)) (by decide) (fun _=>rfl) (fun v8 u8 b8 hR8 hC8=> ?_)
    refine zz ?_
    exact zk_loopW (i+1,v8,ls7++ [t]) ⟨by dsimp only;omega,by dsimp only;rw [List.length_append,List.length_singleton];omega,hR8,hC8⟩ (by dsimp only;omega) ⟨rfl,rfl,get_int rfl (by dsimp only;omega),trivial⟩
   ·by_cases hlast:i=n - 1
    ·refine zz ?_
     refine z_rowpush hR7 hC02 (l:= []) (by simp) (by omega) (want_L rfl) (by decide) rfl (fun _=>(want_L rfl)) (by decide) (fun _=>rfl) (fun v8 u8 b8 hR8 hC8=> ?_)
     refine zz ?_
     exact zk_loopW (i+1,v8,ls7++ [[]]) ⟨by dsimp only;omega,by dsimp only;rw [List.length_append,List.length_singleton];omega,hR8,hC8⟩ (by dsimp only;omega) ⟨rfl,rfl,get_int rfl (by dsimp only;omega),trivial⟩
    ·refine zz ?_
     exact zk_loopW (i+1,v7,ls7) ⟨by dsimp only;omega,by dsimp only;omega,hR7,hC02⟩ (by dsimp only;omega) ⟨rfl,rfl,get_int rfl (by dsimp only;omega),trivial⟩
  ·refine zz ?_
   exact zk_midX (_,ls) ⟨hR6,by dsimp only;omega,hC⟩ ⟨rfl,trivial⟩
 rintro ⟨v,ls⟩ u ⟨hR,hls,hC⟩
 dsimp only at hR hls ⊢
 refine zz ?_
 obtain ⟨A6,c6,rfl,hc6⟩:=hR.form
 refine zc_loopW (ι:=Nat×List UInt8) (fun q u=> [(6,.slice A6 ls.length c6),(9,.string (bs q.2)),(10,.int .i64 (q.1:Nat))]) (fun q u'=>q.1≤ls.length∧q.2.length≤1001*q.1∧u'=u) (fun q u=>ls.length - q.1) (0,[]) ⟨Nat.zero_le _,Nat.zero_le _,rfl⟩ ⟨rfl,rfl,rfl,trivial⟩ ?_
 rintro ⟨i,o2⟩ u' ⟨hi,ho2,hu'⟩
 obtain rfl:=hu'.symm
 dsimp only at hi ho2 ⊢
 by_cases hlt:i<ls.length
 ·obtain ⟨b6,o6,c7,hv6,_,hcell⟩:=hR.cells (by omega)
  simp only [Value.slice.injEq] at hv6
  obtain ⟨rfl,_,rfl⟩:=hv6
  obtain ⟨g1,g2⟩:=hcell i hlt
  repeat' (first|refine za ?_|refine a_cutW rfl rfl rfl fun _ _=> ?_|refine a_catW rfl rfl fun _ _=> ?_|refine a_idxW rfl rfl fun _ _=> ?_|refine a_addW rfl rfl fun _ _=> ?_|refine a_subW rfl rfl fun _ _=> ?_|refine a_min rfl rfl fun _ _ _ _=> ?_|refine a_max rfl rfl fun _ _ _ _=> ?_|refine a_shr rfl rfl fun _ _=> ?_|refine a_and rfl rfl fun _ _=> ?_|refine a_cmp rfl rfl rfl (fun _=> ?_) fun _=> ?_|refine a_eq rfl rfl (fun _=> ?_) fun _=> ?_|refine a_ne rfl rfl (fun _=> ?_) fun _=> ?_)
  refine zL1 rfl (cell_at g1 (by omega)) ?_
  repeat' (first|refine za ?_|refine a_cutW rfl rfl rfl fun _ _=> ?_|refine a_catW rfl rfl fun _ _=> ?_|refine a_idxW rfl rfl fun _ _=> ?_|refine a_addW rfl rfl fun _ _=> ?_|refine a_subW rfl rfl fun _ _=> ?_|refine a_min rfl rfl fun _ _ _ _=> ?_|refine a_max rfl rfl fun _ _ _ _=> ?_|refine a_shr rfl rfl fun _ _=> ?_|refine a_and rfl rfl fun _ _=> ?_|refine a_cmp rfl rfl rfl (fun _=> ?_) fun _=> ?_|refine a_eq rfl rfl (fun _=> ?_) fun _=> ?_|refine a_ne rfl rfl (fun _=> ?_) fun _=> ?_)
  rename_i s1 hs1 s2 hs2
  exact zk_loopW (i+1,s2) ⟨by dsimp only;omega,by dsimp only;omega,rfl⟩ (by dsimp only;omega) ⟨rfl,rfl,get_int rfl (by dsimp only;omega),trivial⟩
 ·repeat' (first|refine za ?_|refine a_cutW rfl rfl rfl fun _ _=> ?_|refine a_catW rfl rfl fun _ _=> ?_|refine a_idxW rfl rfl fun _ _=> ?_|refine a_addW rfl rfl fun _ _=> ?_|refine a_subW rfl rfl fun _ _=> ?_|refine a_min rfl rfl fun _ _ _ _=> ?_|refine a_max rfl rfl fun _ _ _ _=> ?_|refine a_shr rfl rfl fun _ _=> ?_|refine a_and rfl rfl fun _ _=> ?_|refine a_cmp rfl rfl rfl (fun _=> ?_) fun _=> ?_|refine a_eq rfl rfl (fun _=> ?_) fun _=> ?_|refine a_ne rfl rfl (fun _=> ?_) fun _=> ?_)
  exact zk_ret1 (.inr rfl) rfl rfl ⟨⟨_,rfl,by omega⟩,hC1.no hC⟩
open Go Go.Z Go.Proofs T
theorem scheme_calls {w:World} (l:List UInt8) (hl:l.length≤1000000):Calls Tryz.prog 164 [.string (bs l)].toArray w fun e w'=>(∃a b:List UInt8,e= .returned (.tuple #[.string (bs a),.string (bs b)])∧a.length≤l.length∧b.length≤l.length)∧Chg w w' No:=by
 have hbig:big=1000000000000:=rfl
 refine zCz 55 Tryz.func164 ?_
 repeat' (first|refine za ?_|refine a_cutW rfl rfl rfl fun _ _=> ?_|refine a_catW rfl rfl fun _ _=> ?_|refine a_idxW rfl rfl fun _ _=> ?_|refine a_addW rfl rfl fun _ _=> ?_|refine a_subW rfl rfl fun _ _=> ?_|refine a_min rfl rfl fun _ _ _ _=> ?_|refine a_max rfl rfl fun _ _ _ _=> ?_|refine a_shr rfl rfl fun _ _=> ?_|refine a_and rfl rfl fun _ _=> ?_|refine a_cmp rfl rfl rfl (fun _=> ?_) fun _=> ?_|refine a_eq rfl rfl (fun _=> ?_) fun _=> ?_|refine a_ne rfl rfl (fun _=> ?_) fun _=> ?_)
 ·exact zk_ret2 (.inr rfl) rfl rfl rfl ⟨⟨[],l,rfl,Nat.zero_le _,Nat.le_refl _⟩,Chg.refl _ _⟩
 rename_i hne
 have hpos:0<l.length:=List.length_pos_iff.2 hne
 repeat' (first|refine za ?_|refine a_cutW rfl rfl rfl fun _ _=> ?_|refine a_catW rfl rfl fun _ _=> ?_|refine a_idxW rfl rfl fun _ _=> ?_|refine a_addW rfl rfl fun _ _=> ?_|refine a_subW rfl rfl fun _ _=> ?_|refine a_min rfl rfl fun _ _ _ _=> ?_|refine a_max rfl rfl fun _ _ _ _=> ?_|refine a_shr rfl rfl fun _ _=> ?_|refine a_and rfl rfl fun _ _=> ?_|refine a_cmp rfl rfl rfl (fun _=> ?_) fun _=> ?_|refine a_eq rfl rfl (fun _=> ?_) fun _=> ?_|refine a_ne rfl rfl (fun _=> ?_) fun _=> ?_)
 refine zCl rfl (letter_calls _ (by assumption)) ?_
 rintro _ v ⟨⟨q,rfl⟩,hv⟩
 obtain rfl:=hv.symm
 refine ⟨_,rfl,?_⟩
 cases q
 ·repeat' (first|refine za ?_|refine a_cutW rfl rfl rfl fun _ _=> ?_|refine a_catW rfl rfl fun _ _=> ?_|refine a_idxW rfl rfl fun _ _=> ?_|refine a_addW rfl rfl fun _ _=> ?_|refine a_subW rfl rfl fun _ _=> ?_|refine a_min rfl rfl fun _ _ _ _=> ?_|refine a_max rfl rfl fun _ _ _ _=> ?_|refine a_shr rfl rfl fun _ _=> ?_|refine a_and rfl rfl fun _ _=> ?_|refine a_cmp rfl rfl rfl (fun _=> ?_) fun _=> ?_|refine a_eq rfl rfl (fun _=> ?_) fun _=> ?_|refine a_ne rfl rfl (fun _=> ?_) fun _=> ?_)
  exact zk_ret2 (.inr rfl) rfl rfl rfl ⟨⟨[],l,rfl,Nat.zero_le _,Nat.le_refl _⟩,Chg.refl _ _⟩
 refine zz ?_
 refine zc_midBX (ι:=Unit) (fun _ u=>u=w) (fun _=> [(0,.string (bs l))]) ?_ ?_
 rotate_left
 ·rintro _ u hu
  obtain rfl:=hu.symm
  repeat' (first|refine za ?_|refine a_cutW rfl rfl rfl fun _ _=> ?_|refine a_catW rfl rfl fun _ _=> ?_|refine a_idxW rfl rfl fun _ _=> ?_|refine a_addW rfl rfl fun _ _=> ?_|refine a_subW rfl rfl fun _ _=> ?_|refine a_min rfl rfl fun _ _ _ _=> ?_|refine a_max rfl rfl fun _ _ _ _=> ?_|refine a_shr rfl rfl fun _ _=> ?_|refine a_and rfl rfl fun _ _=> ?_|refine a_cmp rfl rfl rfl (fun _=> ?_) fun _=> ?_|refine a_eq rfl rfl (fun _=> ?_) fun _=> ?_|refine a_ne rfl rfl (fun _=> ?_) fun _=> ?_)
  exact zk_ret2 (.inr rfl) rfl rfl rfl ⟨⟨[],l,rfl,Nat.zero_le _,Nat.le_refl _⟩,Chg.refl _ _⟩
 refine zc_loopW (ι:=Nat) (fun i u=> [(0,.string (bs l)),(4,.int .i64 (i:Nat))]) (fun i u=>i≤l.length∧u=w) (fun i u=>l.length - i) 0 ⟨Nat.zero_le _,rfl⟩ ⟨rfl,rfl,trivial⟩ ?_
 rintro i u ⟨hi,hu⟩
 obtain rfl:=hu.symm
 by_cases hlt:i<l.length
 rotate_left
 ·repeat' (first|refine za ?_|refine a_cutW rfl rfl rfl fun _ _=> ?_|refine a_catW rfl rfl fun _ _=> ?_|refine a_idxW rfl rfl fun _ _=> ?_|refine a_addW rfl rfl fun _ _=> ?_|refine a_subW rfl rfl fun _ _=> ?_|refine a_min rfl rfl fun _ _ _ _=> ?_|refine a_max rfl rfl fun _ _ _ _=> ?_|refine a_shr rfl rfl fun _ _=> ?_|refine a_and rfl rfl fun _ _=> ?_|refine a_cmp rfl rfl rfl (fun _=> ?_) fun _=> ?_|refine a_eq rfl rfl (fun _=> ?_) fun _=> ?_|refine a_ne rfl rfl (fun _=> ?_) fun _=> ?_)
  exact zk_midX () rfl ⟨rfl,trivial⟩
 have hc256:Z.byteL l i<256:=byte_lt l i
 by_cases h58:Z.byteL l i=58
 ·refine zz ?_
  refine zc_draw [] (fun w'=>Chg w w' No) (.take 0 (.take 1 (.take 2 (.take 4 (.take 5 (.take 6 (.take 7 (.all1 3 (.take 8 (.take 9 (.fin))))))))))) (by rfl) (by kernel_rfl) (by kernel_rfl) (fun u1 hD1 _=>⟨?_,?_⟩)
  ·exact hD1
  refine ztP rfl rfl (ztP rfl rfl (zRd rfl rfl (fun _ _=>r_cutN 0 i rfl rfl rfl rfl rfl (by omega) (by omega)) ?_))
  refine zz ?_
  refine zRd rfl rfl (fun _ _=>r_cutN (i+1) l.length rfl rfl rfl (by omega) rfl (by omega) (by omega)) ?_
  refine zs_call rfl (want_L rfl) rfl (by decide) rfl (fold_calls _ (by rw [List.length_take];omega)) ?_
  rintro _ u2 ⟨⟨s2,rfl,hs2⟩,hC2⟩
  have hD2:=hD1.no hC2
  refine ⟨_,rfl,hD2,?_⟩
  refine zz ?_
  exact zk_ret2 (.inr rfl) rfl rfl rfl ⟨⟨_,_,rfl,by rw [hs2,List.length_take,List.length_drop];omega,by rw [List.length_take,List.length_drop];omega⟩,hD2⟩
 refine zz ?_
 refine zCl rfl (letter_calls _ hc256) ?_
 rintro _ v ⟨⟨q,rfl⟩,hv⟩
 obtain rfl:=hv.symm
 refine ⟨_,rfl,?_⟩
 cases q
 ·repeat' (first|refine za ?_|refine a_cutW rfl rfl rfl fun _ _=> ?_|refine a_catW rfl rfl fun _ _=> ?_|refine a_idxW rfl rfl fun _ _=> ?_|refine a_addW rfl rfl fun _ _=> ?_|refine a_subW rfl rfl fun _ _=> ?_|refine a_min rfl rfl fun _ _ _ _=> ?_|refine a_max rfl rfl fun _ _ _ _=> ?_|refine a_shr rfl rfl fun _ _=> ?_|refine a_and rfl rfl fun _ _=> ?_|refine a_cmp rfl rfl rfl (fun _=> ?_) fun _=> ?_|refine a_eq rfl rfl (fun _=> ?_) fun _=> ?_|refine a_ne rfl rfl (fun _=> ?_) fun _=> ?_)
  refine zCl rfl (digit_calls _ hc256) ?_
  rintro _ v ⟨⟨q,rfl,_⟩,hv⟩
  obtain rfl:=hv.symm
  refine ⟨_,rfl,?_⟩
  cases q
  all_goals (repeat' (first|refine za ?_|refine a_cutW rfl rfl rfl fun _ _=> ?_|refine a_catW rfl rfl fun _ _=> ?_|refine a_idxW rfl rfl fun _ _=> ?_|refine a_addW rfl rfl fun _ _=> ?_|refine a_subW rfl rfl fun _ _=> ?_|refine a_min rfl rfl fun _ _ _ _=> ?_|refine a_max rfl rfl fun _ _ _ _=> ?_|refine a_shr rfl rfl fun _ _=> ?_|refine a_and rfl rfl fun _ _=> ?_|refine a_cmp rfl rfl rfl (fun _=> ?_) fun _=> ?_|refine a_eq rfl rfl (fun _=> ?_) fun _=> ?_|refine a_ne rfl rfl (fun _=> ?_) fun _=> ?_))
  all_goals first|exact zk_midX () rfl ⟨rfl,trivial⟩|exact zk_loopW (i+1) ⟨by omega,rfl⟩ (by omega) ⟨rfl,get_int rfl (by omega),trivial⟩
 ·repeat' (first|refine za ?_|refine a_cutW rfl rfl rfl fun _ _=> ?_|refine a_catW rfl rfl fun _ _=> ?_|refine a_idxW rfl rfl fun _ _=> ?_|refine a_addW rfl rfl fun _ _=> ?_|refine a_subW rfl rfl fun _ _=> ?_|refine a_min rfl rfl fun _ _ _ _=> ?_|refine a_max rfl rfl fun _ _ _ _=> ?_|refine a_shr rfl rfl fun _ _=> ?_|refine a_and rfl rfl fun _ _=> ?_|refine a_cmp rfl rfl rfl (fun _=> ?_) fun _=> ?_|refine a_eq rfl rfl (fun _=> ?_) fun _=> ?_|refine a_ne rfl rfl (fun _=> ?_) fun _=> ?_)
  all_goals first|exact zk_midX () rfl ⟨rfl,trivial⟩|exact zk_loopW (i+1) ⟨by omega,rfl⟩ (by omega) ⟨rfl,get_int rfl (by omega),trivial⟩
structure UrlV (v:Value) (m:Nat):Prop where
 ex: ∃(a b:List UInt8) (p:Nat) (c d f:List UInt8),v= .agg #[.string (bs a),.string (bs b),.int .i64 p,.string (bs c),.string (bs d),.string (bs f)]∧a.length≤m∧b.length≤m∧c.length≤m∧d.length≤m∧f.length≤m∧p≤65535
theorem UrlV.mk' {m p:Nat} {a b c d f:List UInt8} (h1:a.length≤m) (h2:b.length≤m) (h3:c.length≤m) (h4:d.length≤m) (h5:f.length≤m) (h6:p≤65535):UrlV (.agg #[.string (bs a),.string (bs b),.int .i64 p,.string (bs c),.string (bs d),.string (bs f)]) m:=⟨a,b,p,c,d,f,rfl,h1,h2,h3,h4,h5,h6⟩
theorem head_calls {w:World} {v:Value} {m:Nat} (h:UrlV v m) (hm:m≤100000000):Calls Tryz.prog 171 [v].toArray w fun e w'=>(∃s:List UInt8,e= .returned (.string (bs s))∧s.length≤2*m+1048600)∧Chg w w' No:=by
 obtain ⟨a,b,p,c,d,f,rfl,h1,h2,h3,h4,h5,h6⟩:=h
 refine zCz 25 Tryz.func171 ?_
 refine zS (zR ?_)
 refine zBx rfl (fun w1 b1 hN1=> ?_)
 have hb1:Blk w1 b1 153 [.string (bs a),.string (bs b),.int .i64 p,.string (bs c),.string (bs d),.string (bs f)]:=hN1.blk
 repeat' (first|refine za ?_|refine a_cutW rfl rfl rfl fun _ _=> ?_|refine a_catW rfl rfl fun _ _=> ?_|refine a_idxW rfl rfl fun _ _=> ?_|refine a_addW rfl rfl fun _ _=> ?_|refine a_subW rfl rfl fun _ _=> ?_|refine a_min rfl rfl fun _ _ _ _=> ?_|refine a_max rfl rfl fun _ _ _ _=> ?_|refine a_shr rfl rfl fun _ _=> ?_|refine a_and rfl rfl fun _ _=> ?_|refine a_cmp rfl rfl rfl (fun _=> ?_) fun _=> ?_|refine a_eq rfl rfl (fun _=> ?_) fun _=> ?_|refine a_ne rfl rfl (fun _=> ?_) fun _=> ?_)
 refine zCl rfl (web_calls a) ?_
 rintro _ w2 ⟨⟨q,rfl⟩,hw⟩
 obtain rfl:=hw.symm
 refine ⟨_,rfl,?_⟩
 cases q
 ·repeat' (first|refine za ?_|refine a_cutW rfl rfl rfl fun _ _=> ?_|refine a_catW rfl rfl fun _ _=> ?_|refine a_idxW rfl rfl fun _ _=> ?_|refine a_addW rfl rfl fun _ _=> ?_|refine a_subW rfl rfl fun _ _=> ?_|refine a_min rfl rfl fun _ _ _ _=> ?_|refine a_max rfl rfl fun _ _ _ _=> ?_|refine a_shr rfl rfl fun _ _=> ?_|refine a_and rfl rfl fun _ _=> ?_|refine a_cmp rfl rfl rfl (fun _=> ?_) fun _=> ?_|refine a_eq rfl rfl (fun _=> ?_) fun _=> ?_|refine a_ne rfl rfl (fun _=> ?_) fun _=> ?_)
  exact zk_ret1 (.inr rfl) rfl rfl ⟨⟨_,rfl,by omega⟩,hN1.chg⟩
 by_cases hp:p=0
 ·subst hp
  repeat' (first|refine za ?_|refine a_cutW rfl rfl rfl fun _ _=> ?_|refine a_catW rfl rfl fun _ _=> ?_|refine a_idxW rfl rfl fun _ _=> ?_|refine a_addW rfl rfl fun _ _=> ?_|refine a_subW rfl rfl fun _ _=> ?_|refine a_min rfl rfl fun _ _ _ _=> ?_|refine a_max rfl rfl fun _ _ _ _=> ?_|refine a_shr rfl rfl fun _ _=> ?_|refine a_and rfl rfl fun _ _=> ?_|refine a_cmp rfl rfl rfl (fun _=> ?_) fun _=> ?_|refine a_eq rfl rfl (fun _=> ?_) fun _=> ?_|refine a_ne rfl rfl (fun _=> ?_) fun _=> ?_)
  exact zk_ret1 (.inr rfl) rfl rfl ⟨⟨_,rfl,by omega⟩,hN1.chg⟩
 ·repeat' (first|refine za ?_|refine a_cutW rfl rfl rfl fun _ _=> ?_|refine a_catW rfl rfl fun _ _=> ?_|refine a_idxW rfl rfl fun _ _=> ?_|refine a_addW rfl rfl fun _ _=> ?_|refine a_subW rfl rfl fun _ _=> ?_|refine a_min rfl rfl fun _ _ _ _=> ?_|refine a_max rfl rfl fun _ _ _ _=> ?_|refine a_shr rfl rfl fun _ _=> ?_|refine a_and rfl rfl fun _ _=> ?_|refine a_cmp rfl rfl rfl (fun _=> ?_) fun _=> ?_|refine a_eq rfl rfl (fun _=> ?_) fun _=> ?_|refine a_ne rfl rfl (fun _=> ?_) fun _=> ?_)
  refine zCl rfl (dig_calls p (by omega)) ?_
  rintro _ w2 ⟨⟨s,rfl,hs⟩,hw⟩
  obtain rfl:=hw.symm
  refine ⟨_,rfl,?_⟩
  repeat' (first|refine za ?_|refine a_cutW rfl rfl rfl fun _ _=> ?_|refine a_catW rfl rfl fun _ _=> ?_|refine a_idxW rfl rfl fun _ _=> ?_|refine a_addW rfl rfl fun _ _=> ?_|refine a_subW rfl rfl fun _ _=> ?_|refine a_min rfl rfl fun _ _ _ _=> ?_|refine a_max rfl rfl fun _ _ _ _=> ?_|refine a_shr rfl rfl fun _ _=> ?_|refine a_and rfl rfl fun _ _=> ?_|refine a_cmp rfl rfl rfl (fun _=> ?_) fun _=> ?_|refine a_eq rfl rfl (fun _=> ?_) fun _=> ?_|refine a_ne rfl rfl (fun _=> ?_) fun _=> ?_)
  exact zk_ret1 (.inr rfl) rfl rfl ⟨⟨_,rfl,by omega⟩,hN1.chg⟩
end Go.Proofs.YtbcmiijollpgeaaGreat.V
