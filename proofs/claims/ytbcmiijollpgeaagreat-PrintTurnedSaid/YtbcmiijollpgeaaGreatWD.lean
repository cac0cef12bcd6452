import Derived.Test.YtbcmiijollpgeaaGreatWC
set_option maxHeartbeats 32000000
set_option maxRecDepth 100000
set_option linter.unusedVariables false
set_option linter.unusedSimpArgs false
namespace Go.Z
open Go
def dstOf (ops:Array Oper) (j:Nat):Option Tmp:=(ops[j]?).bind (·.dst)
def okDst (keys:List Nat) (n m:Nat) (ops:Array Oper):Bool:=
 (List.range m).all fun i=>match dstOf ops i with
  |some d=>decide (d<n) && !keys.contains d && (List.range m).all fun j=>i==j||dstOf ops j !=some d
  |none=>false
theorem okDst_at {keys:List Nat} {n m:Nat} {ops:Array Oper} (h:okDst keys n m ops=true) {i:Nat} (hi:i<m): ∃d,dstOf ops i=some d∧d<n∧d∉keys∧ ∀j,j<m→j≠i→dstOf ops j≠some d:=by
 have h1:=List.all_eq_true.1 h i (List.mem_range.2 hi)
 cases hd:dstOf ops i with
 |none=>simp [hd] at h1
 |some d=>
  simp only [hd,Bool.and_eq_true,decide_eq_true_eq,Bool.not_eq_true',List.all_eq_true,List.mem_range,Bool.or_eq_true,beq_iff_eq,bne_iff_ne] at h1
  obtain ⟨⟨h2,h3⟩,h4⟩:=h1
  refine ⟨d,rfl,h2,fun hk=> ?_,fun j hj hji=> ?_⟩
  ·have:keys.contains d=true:=by simpa using hk
   rw [this] at h3;cases h3
  ·rcases h4 j hj with e|e
   ·exact absurd e.symm hji
   ·exact e
theorem wpAny_inv {P:Program} {ops:Array Oper} {Q:Exit→Act→World→Prop} (I:Array Bool→Act→World→Prop)
  (hstep: ∀l a w i,l.size=ops.size→i∈Region.ready .any ops l→I l a w→wpOp P ops Q i (I (l.setIfInBounds i true)) a w)
  (hend: ∀l a w,l.size=ops.size→Region.ready .any ops l= []→I l a w→Q .normal a w):
  ∀(f:Nat) (l:Array Bool) (a:Act) (w:World),l.size=ops.size→l.toList.count false≤f→I l a w→wpAny P .any ops Q f l a w
 |0,l,a,w,hsz,hc,h=>by
  have h0:Region.ready .any ops l= []:=by
   refine List.eq_nil_iff_forall_not_mem.2 (fun j hj=> ?_)
   obtain ⟨h1,_⟩:=mem_ready.1 hj
   rcases Nat.lt_or_ge j l.size with h'|h'
   ·have h2:l[j]=false:=by simpa [h'] using h1
    have h3:false∈l.toList:=by rw [←h2];simp
    have:=List.count_pos_iff.2 h3
    omega
   ·simp [Array.getElem?_eq_none h'] at h1
  exact ⟨h0,hend l a w hsz h0 h⟩
 |f+1,l,a,w,hsz,hc,h=>by
  refine ⟨fun h0=>hend l a w hsz h0 h,fun i hi=> ?_⟩
  refine wpOp_mono (fun a' w' h'=>wpAny_inv I hstep hend f _ a' w' (by simpa using hsz) ?_ h') (hstep l a w i hsz hi h)
  obtain ⟨h1,_⟩:=mem_ready.1 hi
  rcases Nat.lt_or_ge i l.size with h'|h'
  ·have h2:l[i]=false:=by simpa [h'] using h1
   have h3:=List.count_set (a:=true) (b:=false) (l:=l.toList) (i:=i) (by simpa using h')
   have h4:l.toList[i]'(by simpa using h')=false:=by simpa using h2
   rw [h4] at h3
   rw [Array.toList_setIfInBounds,h3]
   have e1:(if (false==false)=true then 1 else 0)=1:=rfl
   have e2:(if (true==false)=true then 1 else 0)=0:=rfl
   rw [e1,e2]
   have hc':List.count false l.toList≤f+1:=hc
   omega
  ·simp [Array.getElem?_eq_none h'] at h1
section
variable {P : Program} {n : Nat} {e : Env} {w : World} {Q : Exit → Act → World → Prop}
structure Lk (ops:Array Oper) (n:Nat) (e0:Env) (G:Nat→Value→World→Prop) (T:World→Prop) (D:Nat→Prop) (a:Act) (w:World):Prop where
 ok:Ok n e0 a
 t:T w
 dep: ∀j,D j→ ∀d,dstOf ops j=some d→ ∃v,a.tmps[d]? =some v∧G j v w
def StepI (P:Program) (ops:Array Oper) (n:Nat) (e0:Env) (G:Nat→Value→World→Prop) (T:World→Prop) (Q:Exit→Act→World→Prop) (i:Nat):Prop:=
 ∀a w,Lk ops n e0 G T (fun j=>waits ops i j=true) a w→ ∃d,dstOf ops i=some d∧wpOp P ops (NP Q) i (fun a' w'=> ∃v,a'=a.put (some d) v∧G i v w'∧T w'∧ ∀j u,G j u w→G j u w') a w
theorem get_keys: ∀(e:Env) (k:Nat) (v:Value),Env.get e k=some v→k∈e.map Prod.fst
 | [],k,v,h=>by simp [Env.get] at h
 |(j,u)::r,k,v,h=>by
  unfold Env.get at h
  split at h
  ·rename_i hj;simp [hj]
  ·exact List.mem_cons_of_mem _ (get_keys r k v h)
theorem Lk.put {ops:Array Oper} {e0:Env} {G:Nat→Value→World→Prop} {T:World→Prop} {m:Nat} (hok:okDst (e0.map Prod.fst) n m ops=true) {D:Nat→Prop} (hD: ∀j,D j→j<m) {a:Act} {w w':World} (h:Lk ops n e0 G T D a w) {i:Nat} (hi:i<m) (hni: ¬D i) {d:Tmp} (hd:dstOf ops i=some d) {v:Value}
  (hG:G i v w') (hT:T w') (hf: ∀j u,G j u w→G j u w'):Lk ops n e0 G T (fun j=>D j∨j=i) (a.put (some d) v) w':=by
 obtain ⟨d',hd',hdn,hdk,hdo⟩:=okDst_at hok hi
 rw [hd] at hd';cases hd'
 have hsz:=h.ok.size
 refine ⟨⟨h.ok.defers,by simp [Act.put,hsz],fun k u hk=> ?_⟩,hT,fun j hj dj hdj=> ?_⟩
 ·have hne:d≠k:=fun he=>hdk (he▸get_keys e0 k u hk)
  simp only [Act.put,Array.getElem?_setIfInBounds_ne hne]
  exact h.ok.at_ k u hk
 ·rcases hj with hj|rfl
  ·obtain ⟨u,h1,h2⟩:=h.dep j hj dj hdj
   have hne:d≠dj:=fun he=>hdo j (hD j hj) (fun hji=>hni (hji▸hj)) (he▸hdj)
   exact ⟨u,by simp only [Act.put,Array.getElem?_setIfInBounds_ne hne];exact h1,hf j u h2⟩
  ·rw [hd] at hdj;cases hdj
   exact ⟨v,by simp [Act.put,hsz,hdn],hG⟩
theorem waits_of {ops:Array Oper} {l:Array Bool} {i j:Nat} (h:i∈Region.ready .any ops l) (hw:waits ops i j=true):l.getD j false=true:=by
 obtain ⟨_,o,ho,hall⟩:=mem_ready.1 h
 simp only [waits,ho] at hw
 obtain ⟨e,he,hb⟩:=Array.any_eq_true'.1 hw
 simp only [Bool.and_eq_true,beq_iff_eq] at hb
 have:=hall e he hb.1
 rwa [hb.2] at this
def fwd (ops:Array Oper):Bool:=(List.range ops.size).all fun i=>match ops[i]? with
 |some o=>o.after.all fun e=>decide (e.on<i)
 |none=>true
theorem fwd_live {ops:Array Oper} (h:fwd ops=true) {b:Array Bool} (hsz:b.size=ops.size) (h0:Region.ready .any ops b= []): ∀i,i<ops.size→b.getD i false=true:=by
 intro i
 induction i using Nat.strongRecOn with
 |ind i ih=>
  intro hi
  rcases hb:b.getD i false with _|_
  ·exfalso
   have hin:i∈Region.ready .any ops b:=by
    refine mem_ready.2 ⟨?_,ops[i],by simp [hi],fun e he _=> ?_⟩
    ·have:i<b.size:=by omega
     simpa [this] using hb
    ·have h1:=List.all_eq_true.1 h i (List.mem_range.2 hi)
     have h2:ops[i]? =some ops[i]:=by simp [hi]
     simp only [h2] at h1
     have h3:=Array.all_eq_true_iff_forall_mem.1 h1 e he
     have h4:e.on<i:=by simpa using h3
     exact ih e.on h4 (by omega)
   rw [h0] at hin;cases hin
  ·rfl
theorem gd_ne {b:Array Bool} {i m:Nat} (h:i≠m) (x:Bool):(b.setIfInBounds i true).getD m x=b.getD m x:=by
 simp only [Array.getD_eq_getD_getElem?,Array.getElem?_setIfInBounds_ne h]
theorem gd_rep (k j:Nat):(Array.replicate k false).getD j false=false:=by
 simp only [Array.getD_eq_getD_getElem?,Array.getElem?_replicate]
 split<;>rfl
def lastOk (ops:Array Oper) (m:Nat):Bool:=(List.range m).all fun j=>waits ops m j
theorem zc_drawI {id:Nat} {l:List Oper} (m:Nat) (G:Nat→Value→World→Prop) (T:World→Prop) (e0:Env) (hm:P.follows .mixedOrders=true) (hok:okDst (e0.map Prod.fst) n m l.toArray=true) (hfw:fwd l.toArray=true) (hsub:Sub e0 e) (hT: ∀w',Chg w w' No→w'.heap=w.heap→T w')
  (hstep: ∀i,i<m→StepI P l.toArray n e0 G T Q i) (hmz:m≤l.toArray.size) (hlast:m<l.toArray.size→m+1=l.toArray.size∧lastOk l.toArray m=true)
  (hfin: ∀a w',Lk l.toArray n e0 G T (fun j=>j<m) a w'→if m<l.toArray.size then wpOp P l.toArray (NP Q) m (NP Q .normal) a w' else NP Q .normal a w'):ZC P n (.region id l.toArray true) e w Q:=by
 unfold ZC
 intro a ha
 refine wp_mono (wp_region_any (Q:=NP Q) hm ?_) NP.le
 refine wpAny_inv (fun b a w=>(b.getD m false=false∧Lk l.toArray n e0 G T (fun j=>j<m∧b.getD j false=true) a w)∨(b.getD m false=true∧(∀j,j<m→b.getD j false=true)∧NP Q .normal a w)) ?_ ?_ _ _ _ _ (by simp) (by simp [List.count_replicate]) ?_
 ·intro b a w i hsz hi h
  obtain ⟨h0,o,ho,_⟩:=mem_ready.1 hi
  have hlt:i<l.toArray.size:=(Array.getElem?_eq_some_iff.1 ho).1
  have hb:b.getD i false=false:=by
   have h1:i<b.size:=by omega
   simpa [h1] using h0
  rcases h with ⟨hbm,h⟩|⟨hbm,hall,_⟩
  ·by_cases him:i<m
   ·have hni: ¬(i<m∧b.getD i false=true):=fun hh=>by rw [hb] at hh;cases hh.2
    have hjm: ∀j,waits l.toArray i j=true→j<m:=fun j hj=>by
     have hfi:=List.all_eq_true.1 hfw i (List.mem_range.2 hlt)
     simp only [ho] at hfi
     simp only [waits,ho] at hj
     obtain ⟨e,he,hbe⟩:=Array.any_eq_true'.1 hj
     simp only [Bool.and_eq_true,beq_iff_eq] at hbe
     have h3:=Array.all_eq_true_iff_forall_mem.1 hfi e he
     have h4:e.on<i:=by simpa using h3
     omega
    obtain ⟨d,hd,hw⟩:=hstep i him a w ⟨h.ok,h.t,fun j hj d hd=>h.dep j ⟨hjm j hj,waits_of hi hj⟩ d hd⟩
    refine wpOp_mono (fun a' w' ⟨v,ha',hG,hT',hf⟩=> .inl ⟨?_,?_⟩) hw
    ·rw [gd_ne (show i≠m by omega)];exact hbm
    ·subst ha'
     have:=Lk.put hok (fun j hj=>hj.1) h him hni hd hG hT' hf
     refine ⟨this.ok,this.t,fun j hj dj hdj=>this.dep j ?_ dj hdj⟩
     by_cases hji:j=i
     ·exact .inr hji
     ·refine .inl ⟨hj.1,?_⟩
      have:=hj.2
      rwa [gd_ne (Ne.symm hji)] at this
   ·have hml:m<l.toArray.size:=by omega
    obtain ⟨h5,h6⟩:=hlast hml
    obtain rfl:i=m:=by omega
    have hall: ∀j,j<i→b.getD j false=true:=fun j hj=>waits_of hi (List.all_eq_true.1 h6 j (List.mem_range.2 hj))
    have h7:=hfin a w ⟨h.ok,h.t,fun j hj d hd=>h.dep j ⟨hj,hall j hj⟩ d hd⟩
    rw [if_pos hml] at h7
    refine wpOp_mono (fun a' w' hq=> .inr ⟨?_,fun j hj=> ?_,hq⟩) h7
    ·have h1:i<b.size:=by omega
     simp [h1]
    ·have:=hall j hj
     rwa [gd_ne (show i≠j by omega)]
  ·exfalso
   rcases Nat.lt_trichotomy i m with h1|h1|h1
   ·rw [hall i h1] at hb;cases hb
   ·subst h1;rw [hbm] at hb;cases hb
   ·have:=(hlast (by omega)).1;omega
 ·intro b a w hsz h0 h
  rcases h with ⟨hbm,h⟩|⟨_,_,hq⟩
  ·have hlv:=fwd_live hfw hsz h0
   have hml: ¬m<l.toArray.size:=fun hh=>by
    have:=hlv m hh
    rw [hbm] at this;cases this
   have:=hfin a w ⟨h.ok,h.t,fun j hj d hd=>h.dep j ⟨hj,hlv j (by omega)⟩ d hd⟩
   rwa [if_neg hml] at this
  ·exact hq
 ·refine .inl ⟨gd_rep _ _,ha.sub hsub,hT _ ⟨rfl,rfl,rfl,Nat.le_refl _,fun _ _ _=>rfl⟩ rfl,fun j hj=> ?_⟩
  have:=hj.2
  rw [gd_rep] at this;cases this
theorem np_zk {a:Act} (h:ZK n .normal e w Q) (ha:Ok n e a):NP Q .normal a w:=by
 unfold ZK at h
 exact h a ha
theorem Ok.cons {e:Env} {a:Act} {d:Nat} {v:Value} (h:Ok n e a) (hv:a.tmps[d]? =some v):Ok n ((d,v)::e) a:=by
 refine ⟨h.defers,h.size,fun k u hk=> ?_⟩
 simp only [Env.get] at hk
 split at hk
 ·rename_i hdk;subst hdk;rw [hv];exact hk
 ·exact h.at_ k u hk
variable {ops : Array Oper} {K : Act → World → Prop} {i : Nat} {o : Oper} {d : Tmp} {v : Value} {a : Act}
theorem wo_run {w':World} (hi:ops[i]? =some o) (hw:Want ops e o.guard) (hd:o.dst=some d) (ha:Ok n e a) (hr: ∀a,Ok n e a→(execOp a.eval o).run P w= .ok (.value v) w') (h:K (a.put (some d) v) w'):wpOp P ops (NP Q) i K a w:=by
 unfold wpOp
 simp only [hi,hw.wanted ha,if_true]
 refine .inl ?_
 unfold Oper.wp
 rw [hr a ha,Oper.upon_value,hd]
 exact h
theorem wo_runU {w':World} (hi:ops[i]? =some o) (hw:Want ops e o.guard) (hd:o.dst=none) (ha:Ok n e a) (hr: ∀a,Ok n e a→(execOp a.eval o).run P w= .ok .skip w') (h:K a w'):wpOp P ops (NP Q) i K a w:=by
 unfold wpOp
 simp only [hi,hw.wanted ha,if_true]
 refine .inl ?_
 unfold Oper.wp
 rw [hr a ha,Oper.upon_skip,hd]
 exact h
theorem wo_pure (hi:ops[i]? =some o) (ha:Ok n e a) (hs:stepP n ops e o=some (d,v)) (h:K (a.put (some d) v) w):wpOp P ops (NP Q) i K a w:=by
 obtain ⟨hd,hdn,hy⟩:=stepP_yields (P:=P) hs
 exact (hy a ha).wpOp hi (by rw [hd];exact h)
theorem wo_store {t:TypeId} {x y:Operand} {b of:Nat} {bt:TypeId} {cs:List Value} {s k:Nat} {z:Value} {ty:TypeId} {pos:String} {aft:Array Edge} {g:Option (Nat×Bool)} [hz:Inf P t s k z] (hi:ops[i]? =some ⟨none,.store t x y,ty,pos,aft,g⟩) (hw:Want ops e g) (ha:Ok n e a) (hx:ev e x=some (.pointer (some ⟨b,of,none⟩))) (hy:ev e y=some v) (hs:v.cells.size=s) (hb:Blk w b bt cs)
  (hfit:of+s≤cs.length) (h1: ∀u∈v.cells.toList,u.oneCell'=true) (h: ∀w',Upd w w' b bt (lay cs of v.cells.toList)→K a w'):wpOp P ops (NP Q) i K a w:=
 wo_runU hi hw rfl ha (fun a ha=>by simp [execOp,ha.ev hx,ha.ev hy,run_storeAt hs hb hfit h1]) (h _ (Upd.setRow hb))
theorem wo_call {dst:Option Tmp} {f:FuncId} {l:List Operand} {ats:Array TypeId} {ty:TypeId} {pos:String} {aft:Array Edge} {g:Option (Nat×Bool)} {vs:List Value} {R:Ending→World→Prop} [hf:IsFn P f]
  (hi:ops[i]? =some ⟨dst,.call {callee:= .value (.func f),args:=l.toArray,argTypes:=ats},ty,pos,aft,g⟩) (hw:Want ops e g) (hd:dst=some d) (ha:Ok n e a) (hx:evs e l=some vs)
  (hc:Calls P f vs.toArray w R) (h: ∀x w',R x w'→ ∃v,x= .returned v∧K (a.put (some d) v) w'):wpOp P ops (NP Q) i K a w:=by
 subst hd
 obtain ⟨fn,h1,h2,h3⟩:=hf.ex
 unfold wpOp
 rw [hi]
 simp only [Want.wanted (o:=⟨some d,.call {callee:= .value (.func f),args:=l.toArray,argTypes:=ats},ty,pos,aft,g⟩) hw ha,if_true]
 refine .inl ?_
 unfold Oper.wp
 have hm:l.map a.eval=vs:=evs_map ha hx
 have h2': ¬fn.name= "runtime.NumGoroutine" :=by simpa using h2
 have h3': ¬fn.body=none:=fun h=>by simp [h] at h3
 have hr:(execOp a.eval (⟨some d,.call {callee:= .value (.func f),args:=l.toArray,argTypes:=ats},ty,pos,aft,g⟩:Oper)).run P w= .ok (.enter f vs.toArray) w:=by
  simp [execOp,resolve,Act.eval,Deferred.ofValue,invoke,callFunc,h1,h2',h3',hm]
 rw [hr,Oper.upon_enter]
 refine hc.mono fun x w' hx=> ?_
 obtain ⟨v,rfl,hz⟩:=h x w' hx
 exact hz
end
section
variable {P : Program} {n : Nat} {e : Env} {w : World} {Q : Exit → Act → World → Prop} {ops : Array Oper} {rest : List Oper}
variable {d : Tmp} {ty : TypeId} {pos : String} {aft : Array Edge} {g : Option (Nat × Bool)} {ks : List Nat} {S : World → Prop}
theorem run_bsE {t el:TypeId} {len s k:Nat} {z:Value} {parts:List (Nat×Operand)} {pv:List (Nat×Value)} (cells:List Value) [hu:Und P t (.slice el)] [hz:Inf P el s k z] (hp:evp e parts=some pv)
  (hsm:len*s≤16777216) (hpos:len*s≠0) (hf:Instr.fill (fun i=>some (i*s,s)) ((Array.range (len*s)).map (z.cells[· %z.cells.size]!)) pv=some cells.toArray):
  ∀a,Ok n e a→(execOp a.eval (⟨some d,.buildSlice t len parts.toArray,ty,pos,aft,g⟩:Oper)).run P w= .ok (.value (.slice (some ⟨w.heap.size,0,none⟩) len len)) {w with heap:=w.heap.push (.cells cells.toArray el)}:=fun A hA=>by
 have h1:=evp_map hA hp
 have h2: ¬(len*s>2 ^ 24):=by omega
 simp only [execOp,Sem.run_bind,List.map_toArray]
 rw [h1]
 simp only [Instr.buildSlice,Sem.run_bind,run_underlying hu.eq,Result.andThen_ok,hz.size w]
 rw [if_neg h2,if_neg hpos]
 simp only [pure_bind,Sem.run_bind,hz.zero w,Result.andThen_ok,Sem.run_pure]
 rw [hf]
 simp [newRow]
theorem zs_bsE {i:Nat} {r:Ord} {t el:TypeId} {len s k:Nat} {z:Value} {parts:List (Nat×Operand)} {pv:List (Nat×Value)} (cells:List Value) [hu:Und P t (.slice el)] [hz:Inf P el s k z] (hi:ops[i]? =some ⟨some d,.buildSlice t len parts.toArray,ty,pos,aft,g⟩) (hw:Want ops e g) (hdn:d<n) (hp:evp e parts=some pv)
  (hsm:len*s≤16777216) (hpos:len*s≠0) (hf:Instr.fill (fun i=>some (i*s,s)) ((Array.range (len*s)).map (z.cells[· %z.cells.size]!)) pv=some cells.toArray)
  (h: ∀w' b,New w w' b el cells→S w'∧ZS P n ops ks S r ((d,.slice (some ⟨b,0,none⟩) len len)::e) w' Q):ZS P n ops ks S (.all1 i r) e w Q:=
 zs_new (t:=el) (cs:=cells) (v:= .slice (some ⟨w.heap.size,0,none⟩) len len) hi hw rfl hdn (run_bsE cells hp hsm hpos hf) (fun w' b hb hn=>by subst hb;exact h w' _ hn)
theorem zo_bsE {i:Nat} {r:Ord} {t el:TypeId} {len s k:Nat} {z:Value} {parts:List (Nat×Operand)} {pv:List (Nat×Value)} (cells:List Value) [hu:Und P t (.slice el)] [hz:Inf P el s k z] (hi:ops[i]? =some ⟨some d,.buildSlice t len parts.toArray,ty,pos,aft,g⟩) (hw:Want ops e g) (hdn:d<n) (hp:evp e parts=some pv)
  (hsm:len*s≤16777216) (hpos:len*s≠0) (hf:Instr.fill (fun i=>some (i*s,s)) ((Array.range (len*s)).map (z.cells[· %z.cells.size]!)) pv=some cells.toArray)
  (h: ∀w' b,New w w' b el cells→S w'∧ZS P n ops ks S r ((d,.slice (some ⟨b,0,none⟩) len len)::e) w' Q):ZO P n ops ks S i r e w Q:=by
 obtain ⟨h4,h5⟩:=h _ _ (New.mk' w el cells)
 exact zo_run hi hw rfl hdn (run_bsE cells hp hsm hpos hf) h4 h5
end
end Go.Z
namespace Go.Proofs.YtbcmiijollpgeaaGreat.T
open Go Go.Z Go.Proofs
def strs (l:List (List UInt8)):List Value:=l.map fun r=> .string (bs r)
theorem strs_get (l:List (List UInt8)) (k:Nat) (h:k<l.length):(strs l)[k]? =some (.string (bs (l.getD k []))):=by
 unfold strs
 rw [List.getElem?_map,List.getElem?_eq_getElem h,List.getD_eq_getElem?_getD,List.getElem?_eq_getElem h];rfl
theorem getD_mem (l:List (List UInt8)) (k:Nat) (h:k<l.length):l.getD k []∈l:=by
 rw [List.getD_eq_getElem?_getD,List.getElem?_eq_getElem h];exact List.getElem_mem h
def kAlt:List UInt8:= [97,108,116]
def kSrc:List UInt8:= [115,114,99]
def kSet:List UInt8:= [115,114,99,115,101,116]
def GI (bt W:Nat):Nat→Value→World→Prop
 |0,v,w=> ∃b,v= .slice (some ⟨b,0,none⟩) 3 3∧Blk w b 9 (strs lAlt)
 |1,v,w=>v= .pointer (some ⟨bt,0,none⟩)
 |2,v,w=> ∃k:Nat,k<3∧v= .int .i64 k
 |3,v,w=> ∃b k,k<3∧v= .pointer (some ⟨b,k,none⟩)∧Blk w b 9 (strs lAlt)
 |4,v,w=> ∃s∈lAlt,v= .string (bs s)
 |5,v,w=> ∃s∈lAlt,v= .agg #[.string (bs kAlt),.string (bs s)]
 |6,v,w=> ∃b,v= .slice (some ⟨b,0,none⟩) 3 3∧Blk w b 9 (strs lSrc)
 |7,v,w=>v= .pointer (some ⟨bt,0,none⟩)
 |8,v,w=> ∃k:Nat,k<3∧v= .int .i64 k
 |9,v,w=> ∃b k,k<3∧v= .pointer (some ⟨b,k,none⟩)∧Blk w b 9 (strs lSrc)
 |10,v,w=> ∃s∈lSrc,v= .string (bs s)
 |11,v,w=> ∃s∈lSrc,v= .agg #[.string (bs kSrc),.string (bs s)]
 |12,v,w=> ∃b,∃s∈lAlt,∃t∈lSrc,v= .slice (some ⟨b,0,none⟩) 2 2∧Blk w b 45 (encA [(kAlt,s),(kSrc,t)])∧W≤b
 |13,v,w=> ∃b,∃s∈lAlt,∃t∈lSrc,v= .agg #[.string (bs nImg),.slice (some ⟨b,0,none⟩) 2 2,.string (bs []),nS,nS]∧Blk w b 45 (encA [(kAlt,s),(kSrc,t)])∧W≤b
 |14,v,w=> ∃b,v= .pointer (some ⟨b,0,none⟩)∧W≤b∧Blk w b 43 [.string ⟨#[]⟩,nS,.string ⟨#[]⟩,nS,nS]
 |_,_,_=>True
theorem GI.keep {bt W:Nat} {w w':World} (h: ∀b t cs,t≠36→Blk w b t cs→Blk w' b t cs): ∀j u,GI bt W j u w→GI bt W j u w'
 |0,u,⟨b,h1,h2⟩=>⟨b,h1,h _ _ _ (by decide) h2⟩
 |1,u,h1=>h1
 |2,u,h1=>h1
 |3,u,⟨b,k,h1,h2,h3⟩=>⟨b,k,h1,h2,h _ _ _ (by decide) h3⟩
 |4,u,h1=>h1
 |5,u,h1=>h1
 |6,u,⟨b,h1,h2⟩=>⟨b,h1,h _ _ _ (by decide) h2⟩
 |7,u,h1=>h1
 |8,u,h1=>h1
 |9,u,⟨b,k,h1,h2,h3⟩=>⟨b,k,h1,h2,h _ _ _ (by decide) h3⟩
 |10,u,h1=>h1
 |11,u,h1=>h1
 |12,u,⟨b,s,hs,t,ht,h1,h2,h3⟩=>⟨b,s,hs,t,ht,h1,h _ _ _ (by decide) h2,h3⟩
 |13,u,⟨b,s,hs,t,ht,h1,h2,h3⟩=>⟨b,s,hs,t,ht,h1,h _ _ _ (by decide) h2,h3⟩
 |14,u,⟨b,h1,h2,h3⟩=>⟨b,h1,h2,h _ _ _ (by decide) h3⟩
 |_+15,u,h1=>trivial
theorem keepN {w w':World} (hc:Chg w w' No): ∀b t cs,t≠36→Blk w b t cs→Blk w' b t cs:=fun b t cs _ h=>h.no hc
theorem keepT {w w':World} {B bt:Nat} (hT:Tp w B bt) (hc:Chg w w' (· =bt)): ∀b t cs,t≠36→Blk w b t cs→Blk w' b t cs:=fun b t cs ht h=>by
 obtain ⟨c0,hb⟩:=hT.blk
 exact h.chg hc (fun he=>h.ne hb ht he)
theorem image_calls {w:World} {B bt:Nat} (hT0:Tp w B bt):Calls Tryz.prog 105 [.pointer (some ⟨bt,0,none⟩)].toArray w fun e w'=> ∃V l,e= .returned (.agg #[.string (bs nImg),V,.string (bs []),nS,nS])∧AtS w' V l∧LN l∧(∀a∈l,a.1∈lKey∧a.2∈lVal)∧Tp w' B bt∧Chg w w' (· =bt):=by
 refine zCz 33 Tryz.func105 ?_
 refine zS (zR ?_)
 refine zAl (fun w1 b1 hN1=> ?_)
 have hb1:Blk w1 b1 43 [.string ⟨#[]⟩,nS,.string ⟨#[]⟩,nS,nS]:=hN1.blk
 have hT1:=hT0.no hN1.chg
 refine zN (zK (zS ?_))
 refine zc_drawI 15 (GI bt w1.heap.size) (fun u=>Tp u B bt∧Chg w1 u (· =bt)) [(0,.pointer (some ⟨bt,0,none⟩)),(2,.pointer (some ⟨b1,0,none⟩))] (by rfl) (by kernel_rfl) (by kernel_rfl) ⟨rfl,rfl,trivial⟩ (fun u hu _=>⟨hT1.no hu,hu.mono (fun _ _ h=>h.elim)⟩) ?_ (by decide) (fun _=>⟨by kernel_rfl,by kernel_rfl⟩) ?_
 ·intro i hi a u hL
  obtain ⟨hok,⟨hT,hC⟩,hd⟩:=hL
  have hsz:=hC.size
  match i,hi with
  |0,_=>exact ⟨4,rfl,wo_run rfl (want_L rfl) rfl hok (run_bsE (strs lAlt) rfl (by decide) (by decide) (by kernel_rfl)) ⟨_,rfl,⟨_,rfl,(New.mk' u 9 (strs lAlt)).blk⟩,⟨hT.no (New.mk' u 9 (strs lAlt)).chg,hC.no (New.mk' u 9 (strs lAlt)).chg⟩,GI.keep (keepN (New.mk' u 9 (strs lAlt)).chg)⟩⟩
  |1,_=>exact ⟨5,rfl,wo_pure rfl hok rfl ⟨_,rfl,rfl,⟨hT,hC⟩,fun _ _ h=>h⟩⟩
  |2,_=>
   obtain ⟨v1,h1,rfl⟩:=hd 1 (by kernel_rfl) _ rfl
   refine ⟨6,rfl,wo_call rfl (want_L rfl) rfl (hok.cons h1) rfl (next_calls hT 3 (by decide) (by decide) rfl) ?_⟩
   rintro _ u' ⟨⟨k,hk,rfl⟩,hT',hC'⟩
   exact ⟨_,rfl,_,rfl,⟨k,hk,rfl⟩,⟨hT',hC.trans hC' (fun _ _ h=>h)⟩,GI.keep (keepT hT hC')⟩
  |3,_=>
   obtain ⟨v0,h0,b,rfl,hb⟩:=hd 0 (by kernel_rfl) _ rfl
   obtain ⟨v2,h2,k,hk,rfl⟩:=hd 2 (by kernel_rfl) _ rfl
   exact ⟨7,rfl,wo_run rfl (want_L rfl) rfl ((hok.cons h0).cons h2) (r_ia rfl rfl (by omega) (by omega)) ⟨_,rfl,⟨b,k,hk,by simp,hb⟩,⟨hT,hC⟩,fun _ _ h=>h⟩⟩
  |4,_=>
   obtain ⟨v3,h3,b,k,hk,rfl,hb⟩:=hd 3 (by kernel_rfl) _ rfl
   exact ⟨8,rfl,wo_run rfl (want_L rfl) rfl (hok.cons h3) (r_load1 rfl ((hb.cell k).trans (strs_get lAlt k hk))) ⟨_,rfl,⟨_,getD_mem lAlt k hk,rfl⟩,⟨hT,hC⟩,fun _ _ h=>h⟩⟩
  |5,_=>
   obtain ⟨v4,h4,s,hs,rfl⟩:=hd 4 (by kernel_rfl) _ rfl
   exact ⟨9,rfl,wo_run rfl (want_L rfl) rfl (hok.cons h4) (r_build' (cells:= #[.string (bs kAlt),.string (bs s)]) rfl (by kernel_rfl)) ⟨_,rfl,⟨s,hs,rfl⟩,⟨hT,hC⟩,fun _ _ h=>h⟩⟩
  |6,_=>exact ⟨10,rfl,wo_run rfl (want_L rfl) rfl hok (run_bsE (strs lSrc) rfl (by decide) (by decide) (by kernel_rfl)) ⟨_,rfl,⟨_,rfl,(New.mk' u 9 (strs lSrc)).blk⟩,⟨hT.no (New.mk' u 9 (strs lSrc)).chg,hC.no (New.mk' u 9 (strs lSrc)).chg⟩,GI.keep (keepN (New.mk' u 9 (strs lSrc)).chg)⟩⟩
  |7,_=>exact ⟨11,rfl,wo_pure rfl hok rfl ⟨_,rfl,rfl,⟨hT,hC⟩,fun _ _ h=>h⟩⟩
  |8,_=>
   obtain ⟨v1,h1,rfl⟩:=hd 7 (by kernel_rfl) _ rfl
   refine ⟨12,rfl,wo_call rfl (want_L rfl) rfl (hok.cons h1) rfl (next_calls hT 3 (by decide) (by decide) rfl) ?_⟩
   rintro _ u' ⟨⟨k,hk,rfl⟩,hT',hC'⟩
   exact ⟨_,rfl,_,rfl,⟨k,hk,rfl⟩,⟨hT',hC.trans hC' (fun _ _ h=>h)⟩,GI.keep (keepT hT hC')⟩
  |9,_=>
   obtain ⟨v0,h0,b,rfl,hb⟩:=hd 6 (by kernel_rfl) _ rfl
   obtain ⟨v2,h2,k,hk,rfl⟩:=hd 8 (by kernel_rfl) _ rfl
   exact ⟨13,rfl,wo_run rfl (want_L rfl) rfl ((hok.cons h0).cons h2) (r_ia rfl rfl (by omega) (by omega)) ⟨_,rfl,⟨b,k,hk,by simp,hb⟩,⟨hT,hC⟩,fun _ _ h=>h⟩⟩
  |10,_=>
   obtain ⟨v3,h3,b,k,hk,rfl,hb⟩:=hd 9 (by kernel_rfl) _ rfl
   exact ⟨14,rfl,wo_run rfl (want_L rfl) rfl (hok.cons h3) (r_load1 rfl ((hb.cell k).trans (strs_get lSrc k hk))) ⟨_,rfl,⟨_,getD_mem lSrc k hk,rfl⟩,⟨hT,hC⟩,fun _ _ h=>h⟩⟩
  |11,_=>
   obtain ⟨v4,h4,s,hs,rfl⟩:=hd 10 (by kernel_rfl) _ rfl
   exact ⟨15,rfl,wo_run rfl (want_L rfl) rfl (hok.cons h4) (r_build' (cells:= #[.string (bs kSrc),.string (bs s)]) rfl (by kernel_rfl)) ⟨_,rfl,⟨s,hs,rfl⟩,⟨hT,hC⟩,fun _ _ h=>h⟩⟩
  |12,_=>
   obtain ⟨v5,h5,s,hs,rfl⟩:=hd 5 (by kernel_rfl) _ rfl
   obtain ⟨v11,h11,t,ht,rfl⟩:=hd 11 (by kernel_rfl) _ rfl
   exact ⟨16,rfl,wo_run rfl (want_L rfl) rfl ((hok.cons h5).cons h11) (run_bsE (encA [(kAlt,s),(kSrc,t)]) rfl (by decide) (by decide) (by kernel_rfl)) ⟨_,rfl,⟨_,s,hs,t,ht,rfl,(New.mk' u 45 (encA [(kAlt,s),(kSrc,t)])).blk,hsz⟩,⟨hT.no (New.mk' u 45 (encA [(kAlt,s),(kSrc,t)])).chg,hC.no (New.mk' u 45 (encA [(kAlt,s),(kSrc,t)])).chg⟩,GI.keep (keepN (New.mk' u 45 (encA [(kAlt,s),(kSrc,t)])).chg)⟩⟩
  |13,_=>
   obtain ⟨v12,h12,b,s,hs,t,ht,rfl,hb,hW⟩:=hd 12 (by kernel_rfl) _ rfl
   exact ⟨17,rfl,wo_run rfl (want_L rfl) rfl (hok.cons h12) (r_build' (cells:= #[.string (bs nImg),.slice (some ⟨b,0,none⟩) 2 2,.string (bs []),nS,nS]) rfl (by kernel_rfl)) ⟨_,rfl,⟨b,s,hs,t,ht,rfl,hb,hW⟩,⟨hT,hC⟩,fun _ _ h=>h⟩⟩
  |14,_=>exact ⟨3,rfl,wo_run rfl (want_L rfl) rfl hok (fun a ha=>by simp [execOp,Instr.alloc,ZP.i43.zero u,newVar,newRow];rfl) ⟨_,rfl,⟨_,rfl,hsz,(New.mk' u 43 [.string ⟨#[]⟩,nS,.string ⟨#[]⟩,nS,nS]).blk⟩,⟨hT.no (New.mk' u 43 [.string ⟨#[]⟩,nS,.string ⟨#[]⟩,nS,nS]).chg,hC.no (New.mk' u 43 [.string ⟨#[]⟩,nS,.string ⟨#[]⟩,nS,nS]).chg⟩,GI.keep (keepN (New.mk' u 43 [.string ⟨#[]⟩,nS,.string ⟨#[]⟩,nS,nS]).chg)⟩⟩
 intro a u hL
 obtain ⟨hok,⟨hT,hC⟩,hd⟩:=hL
 obtain ⟨v13,h13,ba,s,hs,t,ht,rfl,hba,hWa⟩:=hd 13 (by decide) _ rfl
 obtain ⟨v14,h14,b3,rfl,hW3,hb3⟩:=hd 14 (by decide) _ rfl
 rw [if_pos (by decide)]
 refine wo_store rfl (want_L rfl) ((hok.cons h13).cons h14) rfl rfl (by rfl) hb3 (by decide) (by simp [Value.cells,Value.oneCell']) (fun u2 hU2=> ?_)
 have hb4:Blk u2 b3 43 [.string (bs nImg),.slice (some ⟨ba,0,none⟩) 2 2,.string (bs []),nS,nS]:=hU2.blk
 have hT2:Tp u2 B bt:=hT.oth hU2.chg (fun he=>by obtain ⟨cs,hb⟩:=hT.blk;exact hb.ne hb3 (by decide) he) (fun k _ hk=>by have:=hT1.ge;have:=hT1.lt;omega)
 have hba2:=hba.chg hU2.chg (fun he=>hba.ne hb3 (by decide) he)
 have hC2:Chg w1 u2 (· =bt):=hC.trans hU2.chg (fun i hi he=>by omega)
 have hA2:AtS u2 (.slice (some ⟨ba,0,none⟩) 2 2) [(kAlt,s),(kSrc,t)]:=RdS.blk hba2 rfl (Nat.le_refl _) (encA_one _) 0 (fun j u hj=>by rw [Nat.zero_add];exact hj)
 have hb12:Blk u2 b1 43 [.string ⟨#[]⟩,nS,.string ⟨#[]⟩,nS,nS]:=hb1.chg hC2 (fun he=>by obtain ⟨cs,hb⟩:=hT1.blk;exact hb1.ne hb (by decide) he)
 refine np_zk (e:= [(3,.pointer (some ⟨b3,0,none⟩)),(0,.pointer (some ⟨bt,0,none⟩)),(2,.pointer (some ⟨b1,0,none⟩))]) ?_ (hok.cons h14)
 have hka:kAlt∈lKey∧kSrc∈lKey∧kSet∈lKey:=by decide
 have hva: ∀x∈lAlt,x∈lVal:=fun x hx=>by unfold lVal;simp only [List.mem_append];exact .inl (.inl (.inl (.inl hx)))
 have hvs: ∀x∈lSrc,x∈lVal:=fun x hx=>by unfold lVal;simp only [List.mem_append];exact .inl (.inl (.inl (.inr hx)))
 have hvt: ∀x∈lSet,x∈lVal:=fun x hx=>by unfold lVal;simp only [List.mem_append];exact .inl (.inl (.inr hx))
 have hAs: ∀a∈ [(kAlt,s),(kSrc,t)],a.1∈lKey∧a.2∈lVal:=by
  intro a ha
  simp only [List.mem_cons,List.not_mem_nil,or_false] at ha
  rcases ha with rfl|rfl
  ·exact ⟨hka.1,hva s hs⟩
  ·exact ⟨hka.2.1,hvs t ht⟩
 refine zz ?_
 refine zCl rfl (next_calls hT2 3 (by decide) (by decide) rfl) ?_
 rintro _ u3 ⟨⟨k,hk,rfl⟩,hT3,hC3⟩
 refine ⟨_,rfl,?_⟩
 have hb5:=keepT hT2 hC3 _ _ _ (by decide) hb4
 have hb13:=keepT hT2 hC3 _ _ _ (by decide) hb12
 have hA3:=AtS.tp hA2 hT2 hC3
 have hba3:=keepT hT2 hC3 _ _ _ (by decide) hba2
 have hC13:Chg w1 u3 (· =bt):=hC2.trans hC3 (fun _ _ h=>h)
 by_cases hk0:k=0
 ·subst hk0
  have hl2:lSet.length=2:=rfl
  have hO3:Own u3 45 2 (.slice (some ⟨ba,0,none⟩) 2 2) 2 (encA [(kAlt,s),(kSrc,t)]):=Own.mk' (junk:= []) rfl (Nat.le_refl _) (by decide) (by rw [List.append_nil];exact hba3) rfl (encA_one _)
  refine zz ?_
  refine zc_draw [11] (fun w'=>Blk w' b3 43 [.string (bs nImg),.slice (some ⟨ba,0,none⟩) 2 2,.string (bs []),nS,nS]) (.take 0 (.take 1 (.take 3 (.all2 2 (.all1 4 (.take 5 (.all1 6 (.take 7 (.all1 8 (.all1 9 (.take 10 (.last 11)))))))) 4 (.all1 2 (.take 5 (.all1 6 (.take 7 (.all1 8 (.all1 9 (.take 10 (.last 11)))))))))))) (by rfl) (by kernel_rfl) (by kernel_rfl) (fun z1 hZ1 _=>⟨?_,?_⟩)
  ·exact hb5.no hZ1
  have hTa:=hT3.no hZ1
  have hba':=hb5.no hZ1
  have hOa:=hO3.no hZ1
  have hCa:Chg w1 z1 (· =bt):=hC13.no hZ1
  refine zz ?_
  refine zs_two ?_ ?_
  ·refine zo_bsE (strs lSet) rfl (want_L rfl) (by decide) rfl (by decide) (by decide) (by kernel_rfl) (fun z3 c3 hM3=> ?_)
   have hbb:=hba'.no hM3.chg
   refine ⟨hbb,?_⟩
   refine zs_call rfl (want_L rfl) rfl (by decide) rfl (next_calls (hTa.no hM3.chg) 2 (by decide) (by decide) rfl) ?_
   rintro _ z4 ⟨⟨kk,hkk,rfl⟩,hTz,hC4⟩
   have hTm:=hTa.no hM3.chg
   have hbz:=keepT hTm hC4 _ _ _ (by decide) hbb
   have hq:=keepT hTm hC4 _ _ _ (by decide) hM3.blk
   have hOz:Own z4 45 2 (.slice (some ⟨ba,0,none⟩) 2 2) 2 (encA [(kAlt,s),(kSrc,t)]):=(hOa.no hM3.chg).chg hC4 (fun k hk he=>by obtain ⟨cs,hb⟩:=hTm.blk;exact (hOa.no hM3.chg).ne hk hb (by decide) he)
   have hCz:Chg w1 z4 (· =bt):=(hCa.no hM3.chg).trans hC4 (fun _ _ h=>h)
   refine ⟨_,rfl,hbz,?_⟩
   refine zz ?_
   refine zs_run rfl (want_L rfl) rfl (by decide) (r_load1 rfl (cell_at ((hq.cell kk).trans (strs_get lSet kk hkk)) (by omega))) hbz ?_
   refine zRd rfl rfl (fun _ hS=>r_build' (cells:= #[.string (bs kSet),.string (bs (lSet.getD kk []))]) rfl (by kernel_rfl)) ?_
   refine zs_bs1 rfl (want_L rfl) (by decide) rfl (by rfl) (by rfl) (by decide) (by decide) (fun z5 c5 hM5=> ?_)
   have hb55:=hbz.no hM5.chg
   refine ⟨hb55,?_⟩
   have hT5:=hTz.no hM5.chg
   have hO5:=hOz.no hM5.chg
   have hr5:RdS z5 45 2 (.slice (some ⟨c5,0,none⟩) 1 1) 1 (encA [(kSet,lSet.getD kk [])]):=RdS.new hM5 rfl (encA_one _)
   refine zs_appendO rfl (by rfl) (by decide) (want_L rfl) (by decide) rfl rfl hO5 hr5 (by decide) (by decide) (fun v6 z6 hO6 hC6 hr6=> ?_)
   have hb66:=hb55.chg hC6 (fun he=>hO5.ne he hb55 (by decide) rfl)
   have hT6:Tp z6 B bt:=hT5.oth hC6 (fun he=>by obtain ⟨cs,hb⟩:=hT5.blk;exact hO5.ne he hb (by decide) rfl) (fun k _ hk=>by simp only [Value.ownBlock,Option.some.injEq] at hk;have:=hT1.ge;have:=hT1.lt;omega)
   refine ⟨hb66,?_⟩
   obtain ⟨A6,c6,rfl,hc6⟩:=hO6.rd.form
   refine zRd rfl rfl (fun _ hS=>r_fa rfl) ?_
   refine zs_storeL rfl (want_L rfl) rfl rfl rfl (by assumption) (by first|exact Nat.le_refl _|simp [Value.cells]) (by simp [Value.cells,Value.oneCell']) (fun z7 hU7=> ?_)
   have hb7:Blk z7 b3 43 [.string (bs nImg),.slice A6 3 c6,.string (bs []),nS,nS]:=hU7.blk
   have hT7:Tp z7 B bt:=hT6.oth hU7.chg (fun he=>by obtain ⟨cs,hb⟩:=hT6.blk;exact hb.ne hb66 (by decide) he) (fun k _ hk=>by have:=hT1.ge;have:=hT1.lt;omega)
   have hA7:AtS z7 (.slice A6 3 c6) [(kAlt,s),(kSrc,t),(kSet,lSet.getD kk [])]:=RdS.chg hO6.rd hU7.chg (fun b cells hb he=>hb.ne hb66 (by decide) he)
   have hC7:Chg w1 z7 (· =bt):=((hCz.no hM5.chg).trans hC6 (fun k hk he=>by simp only [Value.ownBlock,Option.some.injEq] at he;omega)).trans hU7.chg (fun k hk he=>by omega)
   have hb17:Blk z7 b1 43 [.string ⟨#[]⟩,nS,.string ⟨#[]⟩,nS,nS]:=hb1.chg hC7 (fun he=>by obtain ⟨cs,hb⟩:=hT1.blk;exact hb1.ne hb (by decide) he)
   refine zz ?_
   refine z_store (want_L rfl) rfl rfl rfl (by assumption) (by first|exact Nat.le_refl _|simp [Value.cells]) (by simp [Value.cells,Value.oneCell']) (fun z8 hU8=> ?_)
   have hb8:Blk z8 b1 43 [.string (bs nImg),.slice A6 3 c6,.string (bs []),nS,nS]:=hU8.blk
   refine zN (zK (zE ?_))
   refine zk_retC (.inr rfl) rfl rfl hb8 rfl ⟨_,[(kAlt,s),(kSrc,t),(kSet,lSet.getD kk [])],rfl,RdS.chg hA7 hU8.chg (fun b cells hb he=>hb.ne hb17 (by decide) he),⟨by simp,(by decide: [kAlt,kSrc,kSet].Nodup)⟩,?_,?_,?_⟩
   ·intro a ha
    simp only [List.mem_cons,List.not_mem_nil,or_false] at ha
    rcases ha with rfl|rfl|rfl
    ·exact ⟨hka.1,hva s hs⟩
    ·exact ⟨hka.2.1,hvs t ht⟩
    ·exact ⟨hka.2.2,hvt _ (getD_mem lSet kk hkk)⟩
   ·exact hT7.oth hU8.chg (fun he=>by obtain ⟨cs,hb⟩:=hT7.blk;exact hb.ne hb17 (by decide) he) (fun k _ hk=>by have:=hT0.ge;have:=hT0.lt;have:=hN1.at_;omega)
   ·exact ((hN1.chg.mono (S':=(· =bt)) (fun _ _ h=>h.elim)).trans hC7 (fun _ _ h=>h)).trans hU8.chg (fun k hk he=>by have:=hN1.at_;omega)
  ·refine zo_call rfl (want_L rfl) rfl (by decide) rfl (next_calls hTa 2 (by decide) (by decide) rfl) ?_
   rintro _ z3 ⟨⟨kk,hkk,rfl⟩,hTb,hC4⟩
   have hbb:=keepT hTa hC4 _ _ _ (by decide) hba'
   refine ⟨_,rfl,hbb,?_⟩
   refine zs_bsE (strs lSet) rfl (want_L rfl) (by decide) rfl (by decide) (by decide) (by kernel_rfl) (fun z4 c3 hM3=> ?_)
   have hbz:=hbb.no hM3.chg
   refine ⟨hbz,?_⟩
   have hTz:=hTb.no hM3.chg
   have hq:Blk z4 c3 9 (strs lSet):=hM3.blk
   have hOz:Own z4 45 2 (.slice (some ⟨ba,0,none⟩) 2 2) 2 (encA [(kAlt,s),(kSrc,t)]):=(hOa.chg hC4 (fun k hk he=>by obtain ⟨cs,hb⟩:=hTa.blk;exact hOa.ne hk hb (by decide) he)).no hM3.chg
   have hCz:Chg w1 z4 (· =bt):=(hCa.trans hC4 (fun _ _ h=>h)).no hM3.chg
   refine zz ?_
   refine zs_run rfl (want_L rfl) rfl (by decide) (r_load1 rfl (cell_at ((hq.cell kk).trans (strs_get lSet kk hkk)) (by omega))) hbz ?_
   refine zRd rfl rfl (fun _ hS=>r_build' (cells:= #[.string (bs kSet),.string (bs (lSet.getD kk []))]) rfl (by kernel_rfl)) ?_
   refine zs_bs1 rfl (want_L rfl) (by decide) rfl (by rfl) (by rfl) (by decide) (by decide) (fun z5 c5 hM5=> ?_)
   have hb55:=hbz.no hM5.chg
   refine ⟨hb55,?_⟩
   have hT5:=hTz.no hM5.chg
   have hO5:=hOz.no hM5.chg
   have hr5:RdS z5 45 2 (.slice (some ⟨c5,0,none⟩) 1 1) 1 (encA [(kSet,lSet.getD kk [])]):=RdS.new hM5 rfl (encA_one _)
   refine zs_appendO rfl (by rfl) (by decide) (want_L rfl) (by decide) rfl rfl hO5 hr5 (by decide) (by decide) (fun v6 z6 hO6 hC6 hr6=> ?_)
   have hb66:=hb55.chg hC6 (fun he=>hO5.ne he hb55 (by decide) rfl)
   have hT6:Tp z6 B bt:=hT5.oth hC6 (fun he=>by obtain ⟨cs,hb⟩:=hT5.blk;exact hO5.ne he hb (by decide) rfl) (fun k _ hk=>by simp only [Value.ownBlock,Option.some.injEq] at hk;have:=hT1.ge;have:=hT1.lt;omega)
   refine ⟨hb66,?_⟩
   obtain ⟨A6,c6,rfl,hc6⟩:=hO6.rd.form
   refine zRd rfl rfl (fun _ hS=>r_fa rfl) ?_
   refine zs_storeL rfl (want_L rfl) rfl rfl rfl (by assumption) (by first|exact Nat.le_refl _|simp [Value.cells]) (by simp [Value.cells,Value.oneCell']) (fun z7 hU7=> ?_)
   have hb7:Blk z7 b3 43 [.string (bs nImg),.slice A6 3 c6,.string (bs []),nS,nS]:=hU7.blk
   have hT7:Tp z7 B bt:=hT6.oth hU7.chg (fun he=>by obtain ⟨cs,hb⟩:=hT6.blk;exact hb.ne hb66 (by decide) he) (fun k _ hk=>by have:=hT1.ge;have:=hT1.lt;omega)
   have hA7:AtS z7 (.slice A6 3 c6) [(kAlt,s),(kSrc,t),(kSet,lSet.getD kk [])]:=RdS.chg hO6.rd hU7.chg (fun b cells hb he=>hb.ne hb66 (by decide) he)
   have hC7:Chg w1 z7 (· =bt):=((hCz.no hM5.chg).trans hC6 (fun k hk he=>by simp only [Value.ownBlock,Option.some.injEq] at he;omega)).trans hU7.chg (fun k hk he=>by omega)
   have hb17:Blk z7 b1 43 [.string ⟨#[]⟩,nS,.string ⟨#[]⟩,nS,nS]:=hb1.chg hC7 (fun he=>by obtain ⟨cs,hb⟩:=hT1.blk;exact hb1.ne hb (by decide) he)
   refine zz ?_
   refine z_store (want_L rfl) rfl rfl rfl (by assumption) (by first|exact Nat.le_refl _|simp [Value.cells]) (by simp [Value.cells,Value.oneCell']) (fun z8 hU8=> ?_)
   have hb8:Blk z8 b1 43 [.string (bs nImg),.slice A6 3 c6,.string (bs []),nS,nS]:=hU8.blk
   refine zN (zK (zE ?_))
   refine zk_retC (.inr rfl) rfl rfl hb8 rfl ⟨_,[(kAlt,s),(kSrc,t),(kSet,lSet.getD kk [])],rfl,RdS.chg hA7 hU8.chg (fun b cells hb he=>hb.ne hb17 (by decide) he),⟨by simp,(by decide: [kAlt,kSrc,kSet].Nodup)⟩,?_,?_,?_⟩
   ·intro a ha
    simp only [List.mem_cons,List.not_mem_nil,or_false] at ha
    rcases ha with rfl|rfl|rfl
    ·exact ⟨hka.1,hva s hs⟩
    ·exact ⟨hka.2.1,hvs t ht⟩
    ·exact ⟨hka.2.2,hvt _ (getD_mem lSet kk hkk)⟩
   ·exact hT7.oth hU8.chg (fun he=>by obtain ⟨cs,hb⟩:=hT7.blk;exact hb.ne hb17 (by decide) he) (fun k _ hk=>by have:=hT0.ge;have:=hT0.lt;have:=hN1.at_;omega)
   ·exact ((hN1.chg.mono (S':=(· =bt)) (fun _ _ h=>h.elim)).trans hC7 (fun _ _ h=>h)).trans hU8.chg (fun k hk he=>by have:=hN1.at_;omega)
 ·refine zz ?_
  refine z_store (want_L rfl) rfl rfl rfl (by assumption) (by first|exact Nat.le_refl _|simp [Value.cells]) (by simp [Value.cells,Value.oneCell']) (fun u4 hU4=> ?_)
  have hb8:Blk u4 b1 43 [.string (bs nImg),.slice (some ⟨ba,0,none⟩) 2 2,.string (bs []),nS,nS]:=hU4.blk
  refine zN (zK (zE ?_))
  refine zk_retC (.inr rfl) rfl rfl hb8 rfl ⟨_,[(kAlt,s),(kSrc,t)],rfl,RdS.chg hA3 hU4.chg (fun b cells hb he=>hb.ne hb13 (by decide) he),⟨by simp,(by decide: [kAlt,kSrc].Nodup)⟩,hAs,?_,?_⟩
  ·exact hT3.oth hU4.chg (fun he=>by obtain ⟨cs,hb⟩:=hT3.blk;exact hb.ne hb13 (by decide) he) (fun k _ hk=>by have:=hT0.ge;have:=hT0.lt;have:=hN1.at_;omega)
  ·exact ((hN1.chg.mono (S':=(· =bt)) (fun _ _ h=>h.elim)).trans hC13 (fun _ _ h=>h)).trans hU4.chg (fun k hk he=>by have:=hN1.at_;omega)
theorem in_calls {w:World} {v:Value} (l:List (List UInt8)) (x:List UInt8) (h:RdS w 9 1 v l.length (strs l)) (hl:l.length≤100000):Calls Tryz.prog 97 [v,.string (bs x)].toArray w fun e w'=>e= .returned (.bool (decide (x∈l)))∧w'=w:=by
 obtain ⟨A,c,rfl,hc⟩:=h.form
 refine zCz 18 Tryz.func97 ?_
 refine zz ?_
 refine zc_loopW (ι:=Nat) (fun i u=> [(0,.slice A l.length c),(1,.string (bs x)),(5,.int .i64 i)]) (fun i u=>i≤l.length∧(∀j,j<i→l.getD j []≠x)∧u=w) (fun i u=>l.length - i) 0 ⟨Nat.zero_le _,fun j hj=>absurd hj (Nat.not_lt_zero j),rfl⟩ ?_ ?_
 ·exact ⟨rfl,rfl,rfl,trivial⟩
 rintro i u ⟨hi,hno,hu⟩
 obtain rfl:=hu.symm
 by_cases hlt:i<l.length
 ·obtain ⟨b,o,c',hv,_,hcell⟩:=h.some (by omega)
  cases hv
  have hc0:=hcell (i*1) _ (by rw [Nat.mul_one];exact strs_get l i hlt)
  refine zz ?_
  refine zEq rfl rfl (fun hc=> ?_) (fun hc=> ?_)
  ·refine zz ?_
   exact zk_ret1 (.inr rfl) rfl rfl ⟨by rw [decide_eq_true (by rw [←hc];exact getD_mem l i hlt)],rfl⟩
  ·refine zz ?_
   exact zk_loopW (i+1) ⟨by omega,fun j hj=>by
    rcases Nat.lt_or_ge j i with h1|h1
    ·exact hno j h1
    ·obtain rfl:j=i:=by omega
     exact hc,rfl⟩ (by omega) ⟨rfl,rfl,get_int rfl (by simp),trivial⟩
 ·obtain rfl:i=l.length:=by omega
  refine zz ?_
  refine zk_ret1 (.inr rfl) rfl rfl ⟨?_,rfl⟩
  rw [decide_eq_false (fun hm=> ?_)]
  obtain ⟨j,hj,he⟩:=List.getElem_of_mem hm
  exact hno j hj (by rw [List.getD_eq_getElem?_getD,List.getElem?_eq_getElem hj];exact he)
theorem texts_calls {w:World}:Calls Tryz.prog 104 ([]:List Value).toArray w fun e w'=>(∃b,e= .returned (.slice (some ⟨b,0,none⟩) 13 13)∧Blk w' b 9 (strs lTx))∧Chg w w' No:=by
 refine zCz 2 Tryz.func104 ?_
 refine zz ?_
 refine z_bsE (strs lTx) (want_L rfl) (by decide) rfl (by decide) (by decide) (by kernel_rfl) (fun w1 b1 hN1=> ?_)
 refine zz ?_
 exact zk_ret1 (.inr rfl) rfl rfl ⟨⟨b1,rfl,hN1.blk⟩,hN1.chg⟩
def lnW:List UInt8:= [97,32,99,111,100,101,32,101,109,32,115,116,114,111,110,103,32,115,117,98,32,115,117,112]
def lnN:List (List UInt8):=wordsN [] lnW
theorem lnN_len:lnN.length=6:=by decide+kernel
theorem lnN_nm: ∀x∈lnN,x∈lNm:=by decide+kernel
theorem lnN_in: ∀x∈lnN,x∈tIn:=by decide+kernel
def lTx0:List (List UInt8):= []::lTx
def AT.plain:AT→Prop
 | .nil=>True
 | .cons x k r=>x.text∈lTx0∧r.plain
def AT.okp (l:List (List UInt8)) (D:Nat) (t:AT):Prop:=(t.ok∧t.plain)∧t.shp∧lineA t∧deepA t≤D∧ ∀nm∈l,nm∈tIn→ ¬hasA nm t
structure LnS (l:List (List UInt8)) (D:Nat) (t:AT) (x:Hd) (k:AT):Prop where
 tx:x.name= []→x.text≠ []∧lastNT t
 el:x.name≠ []→x.name∈tInl∧kidsA x.name k∧k.shp
 dp:1+deepA k≤D
 no: ∀nm∈l,nm∈tIn→x.name≠nm∧ ¬hasA nm k
theorem LnS.leaf {l:List (List UInt8)} {D:Nat} {t:AT} {x:Hd} (hx:x.name∈tLf) (hi:x.name∈tInl) (hD:1≤D):LnS l D t x .nil:=
 ⟨fun h=>absurd hx (by rw [h];decide),fun h=>⟨hi,kids_leaf hx rfl,trivial⟩,hD,fun nm _ hn=>⟨fun he=>absurd hn ((show∀a∈tLf,a∉tIn by decide) nm (he▸hx)),id⟩⟩
theorem LnS.text {l:List (List UInt8)} {D:Nat} {t:AT} {tx:List UInt8} (h1:tx≠ []) (h2:lastNT t) (hD:1≤D):LnS l D t ⟨[],[],tx⟩ .nil:=
 ⟨fun _=>⟨h1,h2⟩,fun h=>absurd rfl h,hD,fun nm _ hn=>⟨fun he=>(by have he: []=nm:=he;subst he;exact absurd hn (by decide)),id⟩⟩
theorem AT.snoc_plain: ∀{t:AT} {x:Hd} {k:AT},t.plain→x.text∈lTx0→(t.snoc x k).plain
 | .nil,x,k,_,hx=>⟨hx,trivial⟩
 | .cons y k' r,x,k,h,hx=>⟨h.1,AT.snoc_plain h.2 hx⟩
theorem AT.snoc_okp {l:List (List UInt8)} {D:Nat} {t:AT} {x:Hd} {k:AT} (h:t.okp l D) (hx:HdOk x) (hk:k.ok) (hp:x.text∈lTx0) (hs:LnS l D t x k):(t.snoc x k).okp l D:=by
 obtain ⟨h1,h2,h3,h4,h5⟩:=h
 refine ⟨⟨AT.snoc_ok h1.1 hx hk,AT.snoc_plain h1.2 hp⟩,shp_snoc ⟨fun hn=>(hs.tx hn).1,fun hn=>(hs.el hn).2⟩ t h2,lineA_snoc ?_ t h3 (fun hn=>(hs.tx hn).2),by rw [deepA_snoc];have:=hs.dp;omega,fun nm hn hi hh=> ?_⟩
 ·by_cases hn:x.name= []
  ·exact .inl hn
  ·exact .inr (hs.el hn).1
 ·rcases hasA_snoc t hh with h|h|h
  ·exact h5 nm hn hi h
  ·exact (hs.no nm hn hi).1 h
  ·exact (hs.no nm hn hi).2 h
theorem mem0:([]:List UInt8)∈lTx0:=by decide
def lnZ:Nat→Nat
 |0=>3
 |r+1=>3*(1+lnZ r)
theorem lnZ_one: ∀r,1≤lnZ r / 3
 |0=>by decide
 |r+1=>by simp [lnZ]
theorem lnZ_div (r:Nat):lnZ (r+1) / 3=1+lnZ r:=by simp [lnZ]
def LineC (r:Nat):Prop:= ∀{w:World} {B bt:Nat} {v:Value} (l:List (List UInt8)),Tp w B bt→RdS w 9 1 v l.length (strs l)→l.length+r≤900→ ∀{lv:Int},lv=6 - (r:Int)→
 Calls Tryz.prog 66 [.pointer (some ⟨bt,0,none⟩),.int .i64 lv,v].toArray w fun e w'=> ∃vo t,e= .returned vo∧Out w.heap.size w' vo t∧t.okp l (r+1)∧0<t.len∧t.size≤lnZ r∧Tp w' B bt∧Chg w w' (· =bt)
theorem RdS.tp {w w':World} {ty sz m:Nat} {v:Value} {cs:List Value} {B bt:Nat} (h:RdS w ty sz v m cs) (hT:Tp w B bt) (hc:Chg w w' (· =bt)) (ht:ty≠36):RdS w' ty sz v m cs:=by
 obtain ⟨c0,hb⟩:=hT.blk
 exact RdS.chgAt h hc (fun _ b cells _ hk he=>hk.ne hb ht he)
theorem RdS.art {w w1:World} {b:Nat} {m:MA} {x:Hd} {o:Nat→Prop} {k:AT} (hx:HO w m x) (hk:TreeOk w o m.kids k) (h:New w w1 b 43 (encM [m])):RdS w1 43 5 (.slice (some ⟨b,0,none⟩) 1 1) 1 (encM [m]):=by
 refine RdS.new h rfl ?_
 obtain ⟨A,c,hv,_⟩:=hx.2.1.form
 obtain ⟨A',n',c',hf⟩:=hx.2.2.2
 obtain ⟨A2,c2,hv',_⟩:=hk.form
 intro u hu
 simp only [encM,List.mem_cons,List.not_mem_nil,or_false] at hu
 rcases hu with rfl|rfl|rfl|rfl|rfl
 ·rfl
 ·rw [hv];rfl
 ·rfl
 ·rw [hf];rfl
 ·rw [hv'];rfl
theorem z_push {n:Nat} {e:Env} {w w0:World} {Q:Exit→Act→World→Prop} {ops:Array Oper} {rest:List Oper} {d:Tmp} {ty:TypeId} {pos:String} {aft:Array Edge} {g:Option (Nat×Bool)} {s x:Operand} {B b:Nat} {vo:Value} {t:AT} {m:MA} {h:Hd} {k:AT}
  (hw:Want ops e g) (hdn:d<n) (hs:ev e s=some vo) (hx:ev e x=some (.slice (some ⟨b,0,none⟩) 1 1)) (hO:Out B w0 vo t) (hm:HO w0 m h) (hk:TreeOk w0 (fun b=>B≤b∧vo.ownBlock≠some b) m.kids k) (hB:B≤w0.heap.size) (hN:New w0 w b 43 (encM [m])) (hl:t.len≤1000000000)
  (hq: ∀v' w',Out B w' v' (t.snoc h k)→Chg w0 w' (fun j=>vo.ownBlock=some j)→ZL Tryz.prog n ops rest ((d,v')::e) w' Q):
  ZL Tryz.prog n ops (⟨some d,.call {callee:= .builtin .append,args:= #[s,x],argTypes:= #[24,24]},ty,pos,aft,g⟩::rest) e w Q:=by
 obtain ⟨ms,g1,g2,g3⟩:=hO
 have hlen:=Out.len B g3
 have hr:=RdS.art hm hk hN
 refine z_appendO (by rfl) (by decide) hw hdn hs hx (g1.no hN.chg) hr (by omega) (by omega) (fun v' w' hO' hC' hr'=> ?_)
 exact hq v' w' (Out.push g1 g2 g3 hm hk hB hN.chg hO' hC' hr') ((hN.chg.mono (fun _ _ h=>h.elim)).trans hC' (fun _ _ h=>h))
theorem Tp.own {w w':World} {B bt B':Nat} {vo:Value} {t:AT} (h:Tp w B bt) (hO:Out B' w vo t) (hB:B≤B') (hc:Chg w w' (fun j=>vo.ownBlock=some j)):Tp w' B bt:=by
 obtain ⟨ms,g1,g2,g3⟩:=hO
 obtain ⟨cs,hb⟩:=h.blk
 exact h.oth hc (fun he=>g1.ne he hb (by decide) rfl) (fun k _ hk=>Nat.le_trans hB (g2 k hk))
theorem Chg.own {w0 w w':World} {bt B':Nat} {vo:Value} {t:AT} (h:Chg w0 w (· =bt)) (hO:Out B' w vo t) (hB:w0.heap.size≤B') (hc:Chg w w' (fun j=>vo.ownBlock=some j)):Chg w0 w' (· =bt):=by
 obtain ⟨ms,g1,g2,g3⟩:=hO
 exact h.trans hc (fun i hi he=>by have:=g2 i he;omega)
theorem cellsS_strs (l:List (List UInt8)):cellsS l=strs l:=rfl
theorem line_body (r:Nat) (hr6:r≤6) (hrec: ∀r',r=r'+1→LineC r'):LineC r:=by
 intro w B bt v l hT0 hv0 hl lv hlv
 obtain ⟨Av,cv,hvf,hcv⟩:=hv0.form
 subst hvf
 refine zCz 113 Tryz.func66 ?_
 refine zz ?_
 refine zCl rfl (next_calls hT0 3 (by decide) (by decide) rfl) ?_
 rintro _ w1 ⟨⟨kn,hkn,rfl⟩,hT1,hC1⟩
 refine ⟨_,rfl,?_⟩
 refine zz ?_
 refine zc_loopW (ι:=Nat×Value×AT) (fun q u=> [(0,.pointer (some ⟨bt,0,none⟩)),(1,.int .i64 lv),(2,.slice Av l.length cv),(7,q.2.1),(8,.int .i64 (1+(kn:Int))),(9,.int .i64 q.1)])
  (fun q u=>q.1≤1+kn∧Out w.heap.size u q.2.1 q.2.2∧q.2.2.okp l (r+1)∧q.2.2.len=q.1∧q.2.2.size+(1+kn - q.1)*(lnZ r / 3)≤(1+kn)*(lnZ r / 3)∧Tp u B bt∧Chg w u (· =bt)) (fun q u=>1+kn - q.1) (0,nS,.nil) ⟨Nat.zero_le _,Out.nil,⟨⟨trivial,trivial⟩,trivial,trivial,Nat.zero_le _,fun _ _ _ h=>h⟩,rfl,by simp [AT.size],hT1,hC1⟩ ?_ ?_
 ·exact ⟨rfl,rfl,rfl,rfl,rfl,rfl,trivial⟩
 rintro ⟨i,vo,t⟩ u ⟨hi,hO,hok,hlen,hsz,hT,hC⟩
 dsimp only at hi hO hok hlen hsz hT hC ⊢
 have hws:=hC.size
 by_cases hlt:i<1+kn
 rotate_left
 ·obtain rfl:i=1+kn:=by omega
  refine zz ?_
  have hz:(1+kn)*(lnZ r / 3)≤lnZ r:=by
   have h1:=Nat.mul_le_mul_right (lnZ r / 3) (show 1+kn≤3 by omega)
   have h2:=Nat.mul_div_le (lnZ r) 3
   omega
  refine zk_ret1 (.inr rfl) rfl rfl ⟨_,t,rfl,hO,hok,by omega,by omega,hT,hC⟩
 obtain ⟨A0,c0,hvo,hc0⟩:=hO.form
 subst hvo
 refine zz ?_
 refine zCl rfl (next_calls hT 10 (by decide) (by decide) rfl) ?_
 rintro _ u1 ⟨⟨k1,hk1,rfl⟩,hTa,hCa⟩
 refine ⟨_,rfl,?_⟩
 have hO1:=hO.tp hT hCa
 have hC1':Chg w u1 (· =bt):=hC.trans hCa (fun _ _ h=>h)
 refine zz ?_
 refine zCl rfl (wordsR_calls (l:=lnW) (by decide)) ?_
 rintro _ u2 ⟨vn,rfl,hn1,hCb⟩
 refine ⟨_,rfl,?_⟩
 rw [show wordsN [] lnW=lnN from rfl,lnN_len,cellsS_strs] at hn1
 have hO2:=hO1.no hCb
 have hTb:=hTa.no hCb
 obtain ⟨bn,on,cn,hvn,_,_⟩:=RdS.some hn1.rd (by omega)
 subst hvn
 refine zP rfl ?_
 refine zCl rfl (next_calls hTb 6 (by decide) (by decide) rfl) ?_
 rintro _ u3 ⟨⟨j,hj,rfl⟩,hTc,hCc⟩
 refine ⟨_,rfl,?_⟩
 have hO3:=hO2.tp hTb hCc
 have hC3:Chg w u3 (· =bt):=(hC1'.no hCb).trans hCc (fun _ _ h=>h)
 have hn3:=RdS.tp hn1.rd hTb hCc (by decide)
 obtain ⟨bn',on',cn',hvn,_,hcn⟩:=RdS.some hn3 (by omega)
 cases hvn
 have hcj:=hcn j _ (strs_get lnN j (by rw [lnN_len];exact hj))
 have hnm:=lnN_nm _ (getD_mem lnN j (by rw [lnN_len];exact hj))
 have hnl:=lnN_in _ (getD_mem lnN j (by rw [lnN_len];exact hj))
 generalize lnN.getD j []=nm at hcj hnm hnl
 have hsu3:=hC3.size
 refine zIa rfl rfl (zL1 rfl (cell_at hcj (by omega)) (zP rfl (zN (zK ?_))))
 have hz1:=lnZ_one r
 refine zc_midBX (ι:=Value×AT) (fun q u'=>Out w.heap.size u' q.1 q.2∧q.2.okp l (r+1)∧q.2.len=i+1∧q.2.size≤t.size+lnZ r / 3∧Tp u' B bt∧Chg w u' (· =bt)) (fun q=> [(0,.pointer (some ⟨bt,0,none⟩)),(1,.int .i64 lv),(2,.slice Av l.length cv),(7,q.1),(8,.int .i64 (1+(kn:Int))),(9,.int .i64 i)]) ?_ ?_
 rotate_left
 ·rintro ⟨vo',t'⟩ u' ⟨g1,g2,g3,g4,g5,g6⟩
  dsimp only at g1 g2 g3 g4 g5 g6 ⊢
  refine zz ?_
  refine zk_loopW (i+1,vo',t') ⟨by omega,g1,g2,g3,?_,g5,g6⟩ (by show 1+kn - (i+1)<1+kn - i;omega) ⟨rfl,rfl,rfl,rfl,rfl,get_int rfl (by simp),trivial⟩
  dsimp only
  obtain ⟨m,hm⟩: ∃m,1+kn - i=m+1:=⟨1+kn - i - 1,by omega⟩
  rw [hm,Nat.add_mul,Nat.one_mul] at hsz
  rw [show 1+kn - (i+1)=m by omega];omega
 refine zB ?_
 refine zc_midX (ι:=Bool) (fun q u'=>u'=u3∧(q=true→lastNT t)) (fun q=> [(0,.pointer (some ⟨bt,0,none⟩)),(1,.int .i64 lv),(2,.slice Av l.length cv),(7,.slice A0 t.len c0),(8,.int .i64 (1+(kn:Int))),(9,.int .i64 i),(10,.int .i64 k1),(11,.string (bs nm)),(32,.bool q)]) ?_ ?_
 ·by_cases hk4:k1<4
  ·by_cases hl0:t.len=0
   ·refine zz ?_
    exact zk_midX true ⟨rfl,fun _=>by
     cases t with
     |nil=>trivial
     |cons y k2 r2=>simp [AT.len] at hl0⟩ ⟨rfl,rfl,rfl,rfl,rfl,rfl,rfl,rfl,rfl,trivial⟩
   ·obtain ⟨b',o',c',x,kx,rx,A',F',K',e1,hv,hN,_⟩:=hO3.tree.at'.at_ (t.len - 1) (by omega)
    cases hv
    have hcx:u3.cell? ⟨b',o'+((t.len:Int) - 1).toNat*5+0,none⟩=some (.string (bs x.name)):=by
     have e:((t.len:Int) - 1).toNat=t.len - 1:=by omega
     rw [e];exact hN.c0
    refine zz ?_
    refine z_neL (r:= []) (want_L rfl) (by decide) rfl rfl (fun hc=> ?_) (fun hc=> ?_)
    ·refine zP rfl (zP rfl (zP rfl (zN ?_)))
     exact zk_midX true ⟨rfl,fun _=>lastNT_drop hc t e1⟩ ⟨rfl,rfl,rfl,rfl,rfl,rfl,rfl,rfl,rfl,trivial⟩
    ·refine zP rfl (zP rfl (zP rfl (zN ?_)))
     exact zk_midX false ⟨rfl,fun h=>by cases h⟩ ⟨rfl,rfl,rfl,rfl,rfl,rfl,rfl,rfl,rfl,trivial⟩
  ·refine zz ?_
   exact zk_midX false ⟨rfl,fun h=>by cases h⟩ ⟨rfl,rfl,rfl,rfl,rfl,rfl,rfl,rfl,rfl,trivial⟩
 have hdBr:HdOk ⟨nBr,[],[]⟩:=⟨by decide,⟨by simp,by simp⟩,by simp,by decide⟩
 have hdTx: ∀x∈lTx,HdOk ⟨[],[],x⟩:=fun x hx=>⟨(by decide:([]:List UInt8)∈lNm),⟨by simp,by simp⟩,by simp,by unfold lTxs;simp only [List.mem_cons,List.mem_append];exact .inr (.inr (.inl hx))⟩
 have hlt3:t.len≤3:=by omega
 rintro q uq ⟨hq,hqt⟩
 obtain rfl:=hq.symm
 cases q
 rotate_left
 ·refine zz ?_
  refine zCl rfl texts_calls ?_
  rintro _ u4 ⟨⟨b4,rfl,hb4⟩,hX4⟩
  refine ⟨_,rfl,?_⟩
  have hO4:=hO3.no hX4
  have hT4:=hTc.no hX4
  have hC4:Chg w u4 (· =bt):=hC3.no hX4
  refine zP rfl ?_
  refine zCl rfl (next_calls hT4 13 (by decide) (by decide) rfl) ?_
  rintro _ u5 ⟨⟨kt,hkt,rfl⟩,hT5,hX5⟩
  refine ⟨_,rfl,?_⟩
  have hO5:=hO4.tp hT4 hX5
  have hC5:Chg w u5 (· =bt):=hC4.trans hX5 (fun _ _ h=>h)
  have hb5:=keepT hT4 hX5 _ _ _ (by decide) hb4
  have hgt:=(hb5.cell kt).trans (strs_get lTx kt hkt)
  have hmt:=getD_mem lTx kt hkt
  generalize lTx.getD kt []=tx at hgt hmt
  refine zIa rfl rfl (zL1 rfl (cell_at hgt (by omega)) (zz ?_))
  refine zB1 rfl (fun u6 b6 hN6=> ?_)
  have hO6:=hO5.no hN6.chg
  have hT6:=hT5.no hN6.chg
  have hC6:Chg w u6 (· =bt):=hC5.no hN6.chg
  refine z_buildE #[.string (bs []),nS,.string (bs tx),.slice (some ⟨b6,0,none⟩) 1 1,nS] (want_L rfl) (by decide) rfl (by kernel_rfl) ?_
  refine z_bsE (encM [⟨[],nS,tx,.slice (some ⟨b6,0,none⟩) 1 1,nS⟩]) (want_L rfl) (by decide) rfl (by decide) (by decide) (by kernel_rfl) (fun p1 pb hP=> ?_)
  refine z_push (h:=⟨[],[],tx⟩) (k:= .nil) (m:=⟨[],nS,tx,.slice (some ⟨b6,0,none⟩) 1 1,nS⟩) (want_L rfl) (by decide) rfl rfl hO6 ⟨rfl,AtS.nil _,rfl,⟨_,_,_,rfl⟩⟩ TreeOk.nil (by have:=hC6.size;omega) hP (by omega) (fun p2 q2 hP2 hPC=> ?_)
  have hPT:=hT6.own hO6 (by have:=hT0.lt;have:=hT0.ge;omega) hPC
  have hPW:=Chg.own hC6 hO6 (Nat.le_refl _) hPC
  obtain ⟨pA,pc,hpv,_⟩:=hP2.form
  subst hpv
  refine zz ?_
  exact zk_midX (.slice pA _ pc,t.snoc ⟨[],[],tx⟩ .nil) ⟨hP2,AT.snoc_okp hok (hdTx tx hmt) trivial (List.mem_cons_of_mem _ hmt) (LnS.text ((show∀a∈lTx,a≠ [] by decide) tx hmt) (hqt rfl) (by omega)),by rw [AT.snoc_len,hlen],by rw [AT.snoc_size];simp only [AT.size];omega,hPT,hPW⟩ ⟨rfl,rfl,rfl,rfl,rfl,rfl,trivial⟩
 ·by_cases hk4:k1=4
  ·subst hk4
   refine zz ?_
   refine z_buildE #[.string (bs nBr),nS,.string (bs []),nS,nS] (want_L rfl) (by decide) rfl (by kernel_rfl) ?_
   refine z_bsE (encM [⟨nBr,nS,[],nS,nS⟩]) (want_L rfl) (by decide) rfl (by decide) (by decide) (by kernel_rfl) (fun p1 pb hP=> ?_)
   refine z_push (h:=⟨nBr,[],[]⟩) (k:= .nil) (m:=⟨nBr,nS,[],nS,nS⟩) (want_L rfl) (by decide) rfl rfl hO3 ⟨rfl,AtS.nil _,rfl,isSl_nil⟩ TreeOk.nil (by have:=hC3.size;omega) hP (by omega) (fun p2 q2 hP2 hPC=> ?_)
   have hPT:=hTc.own hO3 (by have:=hT0.lt;have:=hT0.ge;omega) hPC
   have hPW:=Chg.own hC3 hO3 (Nat.le_refl _) hPC
   obtain ⟨pA,pc,hpv,_⟩:=hP2.form
   subst hpv
   refine zz ?_
   exact zk_midX (.slice pA _ pc,t.snoc ⟨nBr,[],[]⟩ .nil) ⟨hP2,AT.snoc_okp hok hdBr trivial mem0 (LnS.leaf (by decide:nBr∈tLf) (by decide:nBr∈tInl) (by omega)),by rw [AT.snoc_len,hlen],by rw [AT.snoc_size];simp only [AT.size];omega,hPT,hPW⟩ ⟨rfl,rfl,rfl,rfl,rfl,rfl,trivial⟩
  ·by_cases hk5:k1=5
   ·subst hk5
    refine zz ?_
    refine zCl rfl (image_calls hTc) ?_
    rintro _ u4 ⟨V,la,rfl,hAl,hl3,hla,hT4,hX4⟩
    refine ⟨_,rfl,?_⟩
    have hO4:=hO3.tp hTc hX4
    have hC4:Chg w u4 (· =bt):=hC3.trans hX4 (fun _ _ h=>h)
    obtain ⟨VA,vc,rfl,_⟩:=hAl.form
    have hdI:HdOk ⟨nImg,la,[]⟩:=⟨(by decide:nImg∈lNm),hl3,hla,(by decide:([]:List UInt8)∈lTxs)⟩
    refine z_bsE (encM [⟨nImg,.slice VA la.length vc,[],nS,nS⟩]) (want_L rfl) (by decide) rfl (by decide) (by decide) (by kernel_rfl) (fun p1 pb hP=> ?_)
    refine z_push (h:=⟨nImg,la,[]⟩) (k:= .nil) (m:=⟨nImg,.slice VA la.length vc,[],nS,nS⟩) (want_L rfl) (by decide) rfl rfl hO4 ⟨rfl,hAl,rfl,isSl_nil⟩ TreeOk.nil (by have:=hC4.size;omega) hP (by omega) (fun p2 q2 hP2 hPC=> ?_)
    have hPT:=hT4.own hO4 (by have:=hT0.lt;have:=hT0.ge;omega) hPC
    have hPW:=Chg.own hC4 hO4 (Nat.le_refl _) hPC
    obtain ⟨pA,pc,hpv,_⟩:=hP2.form
    subst hpv
    refine zz ?_
    exact zk_midX (.slice pA _ pc,t.snoc ⟨nImg,la,[]⟩ .nil) ⟨hP2,AT.snoc_okp hok hdI trivial mem0 (LnS.leaf (by decide:nImg∈tLf) (by decide:nImg∈tInl) (by omega)),by rw [AT.snoc_len,hlen],by rw [AT.snoc_size];simp only [AT.size];omega,hPT,hPW⟩ ⟨rfl,rfl,rfl,rfl,rfl,rfl,trivial⟩
   ·rcases r with _|r'
    ·refine zz ?_
     refine z_buildE #[.string (bs nBr),nS,.string (bs []),nS,nS] (want_L rfl) (by decide) rfl (by kernel_rfl) ?_
     refine z_bsE (encM [⟨nBr,nS,[],nS,nS⟩]) (want_L rfl) (by decide) rfl (by decide) (by decide) (by kernel_rfl) (fun p1 pb hP=> ?_)
     refine z_push (h:=⟨nBr,[],[]⟩) (k:= .nil) (m:=⟨nBr,nS,[],nS,nS⟩) (want_L rfl) (by decide) rfl rfl hO3 ⟨rfl,AtS.nil _,rfl,isSl_nil⟩ TreeOk.nil (by have:=hC3.size;omega) hP (by omega) (fun p2 q2 hP2 hPC=> ?_)
     have hPT:=hTc.own hO3 (by have:=hT0.lt;have:=hT0.ge;omega) hPC
     have hPW:=Chg.own hC3 hO3 (Nat.le_refl _) hPC
     obtain ⟨pA,pc,hpv,_⟩:=hP2.form
     subst hpv
     refine zz ?_
     exact zk_midX (.slice pA _ pc,t.snoc ⟨nBr,[],[]⟩ .nil) ⟨hP2,AT.snoc_okp hok hdBr trivial mem0 (LnS.leaf (by decide:nBr∈tLf) (by decide:nBr∈tInl) (by omega)),by rw [AT.snoc_len,hlen],by rw [AT.snoc_size];simp only [AT.size];omega,hPT,hPW⟩ ⟨rfl,rfl,rfl,rfl,rfl,rfl,trivial⟩
    ·have hv3:=RdS.chg hv0 hC3 (fun b cells hb he=>by obtain ⟨cs,h30⟩:=hT0.blk;exact hb.ne h30 (by decide) he)
     have hlv6:lv=5 - (r':Int):=by rw [hlv];omega
     refine zz ?_
     refine zCp rfl (in_calls l nm hv3 (by omega)) ?_
     by_cases hin:nm∈l
     rotate_left
     rw [decide_eq_false hin]
     rotate_left
     rw [decide_eq_true hin]
     rotate_left
     rotate_left
     ·refine zz ?_
      refine z_buildE #[.string (bs nBr),nS,.string (bs []),nS,nS] (want_L rfl) (by decide) rfl (by kernel_rfl) ?_
      refine z_bsE (encM [⟨nBr,nS,[],nS,nS⟩]) (want_L rfl) (by decide) rfl (by decide) (by decide) (by kernel_rfl) (fun p1 pb hP=> ?_)
      refine z_push (h:=⟨nBr,[],[]⟩) (k:= .nil) (m:=⟨nBr,nS,[],nS,nS⟩) (want_L rfl) (by decide) rfl rfl hO3 ⟨rfl,AtS.nil _,rfl,isSl_nil⟩ TreeOk.nil (by have:=hC3.size;omega) hP (by omega) (fun p2 q2 hP2 hPC=> ?_)
      have hPT:=hTc.own hO3 (by have:=hT0.lt;have:=hT0.ge;omega) hPC
      have hPW:=Chg.own hC3 hO3 (Nat.le_refl _) hPC
      obtain ⟨pA,pc,hpv,_⟩:=hP2.form
      subst hpv
      refine zz ?_
      exact zk_midX (.slice pA _ pc,t.snoc ⟨nBr,[],[]⟩ .nil) ⟨hP2,AT.snoc_okp hok hdBr trivial mem0 (LnS.leaf (by decide:nBr∈tLf) (by decide:nBr∈tInl) (by omega)),by rw [AT.snoc_len,hlen],by rw [AT.snoc_size];simp only [AT.size];omega,hPT,hPW⟩ ⟨rfl,rfl,rfl,rfl,rfl,rfl,trivial⟩
     refine zz ?_
     refine z_bs0 (want_L rfl) (by decide) (fun u4 b4 hN4=> ?_)
     have hE4:Own u4 9 1 (.slice (some ⟨b4,0,none⟩) 0 0) 0 []:=Own.empty hN4
     refine zP rfl ?_
     refine z_appendO (by rfl) (by decide) (want_L rfl) (by decide) rfl rfl hE4 (hv3.no hN4.chg) (by omega) (by omega) (fun v5 u5 hO5 hX5 hr5=> ?_)
     rw [List.nil_append,Nat.zero_add] at hO5
     obtain ⟨A5,c5,rfl,hc5⟩:=hO5.rd.form
     refine zP rfl ?_
     refine zB1 rfl (fun u6 b6 hN6=> ?_)
     have hr6':RdS u6 9 1 (.slice (some ⟨b6,0,none⟩) 1 1) 1 [.string (bs nm)]:=RdS.new hN6 rfl (fun u hu=>by simp only [List.mem_singleton] at hu;subst hu;rfl)
     refine z_appendO (by rfl) (by decide) (want_L rfl) (by decide) rfl rfl (hO5.no hN6.chg) hr6' (by omega) (by omega) (fun v7 u7 hO7 hX7 hr7=> ?_)
     obtain ⟨A7,c7,rfl,hc7⟩:=hO7.rd.form
     have hge5: ∀k,(Value.slice A5 l.length c5).ownBlock=some k→u3.heap.size≤k:=fun k hk=>by
      rcases hr5 with e1|⟨q,e1,e2⟩
      ·rw [e1] at hk;simp only [Value.ownBlock,Option.some.injEq] at hk;have:=hN4.at_;omega
      ·rw [hk] at e1;cases e1;have:=hN4.chg.size;omega
     have hX35:Chg u3 u5 No:=(hN4.chg.no (Chg.refl _ _)).trans hX5 (fun k hk he=>by simp only [Value.ownBlock,Option.some.injEq] at he;have:=hN4.at_;omega)
     have hX37:Chg u3 u7 No:=(hX35.no hN6.chg).trans hX7 (fun k hk he=>by have:=hge5 k he;omega)
     have hT7:=hTc.no hX37
     have hs7:(strs l++ [.string (bs nm)])=strs (l++ [nm]):=by simp [strs]
     have hrd7:RdS u7 9 1 (.slice A7 (l.length+1) c7) (l++ [nm]).length (strs (l++ [nm])):=by
      rw [←hs7,List.length_append];exact hO7.rd
     have hO3':=hO3.no hX37
     refine zCl rfl (hrec r' rfl (l++ [nm]) hT7 hrd7 (by rw [List.length_append];simp only [List.length_cons,List.length_nil];omega) (lv:=lv+1) (by rw [hlv6];omega)) ?_
     rintro _ u8 ⟨K,kt,rfl,hK8,hkok,hkl,hks,hT8,hX8⟩
     refine ⟨_,rfl,?_⟩
     obtain ⟨AK,cK,rfl,_⟩:=hK8.form
     have hO8:=hO3'.tp hT7 hX8
     have hC8:Chg w u8 (· =bt):=(hC3.no hX37).trans hX8 (fun _ _ h=>h)
     have hs8:=hC8.size
     have hs37:=hX37.size
     have hs78:=hX8.size
     have hKu8:TreeOk u8 (fun b=>w.heap.size≤b∧(Value.slice A0 t.len c0).ownBlock≠some b) (.slice AK kt.len cK) kt:=TreeOk.under hO3 (B2:=u7.heap.size) (by have:=hC3.size;omega) (by omega) hK8.tree
     refine z_buildE #[.string (bs nm),nS,.string (bs []),nS,.slice AK kt.len cK] (want_L rfl) (by decide) rfl (by kernel_rfl) ?_
     refine zAl (fun u9 b9 hN9=> ?_)
     have hb9:Blk u9 b9 43 [.string ⟨#[]⟩,nS,.string ⟨#[]⟩,nS,nS]:=hN9.blk
     refine z_store (want_L rfl) rfl rfl rfl (by assumption) (by first|exact Nat.le_refl _|simp [Value.cells]) (by simp [Value.cells,Value.oneCell']) (fun u10 hU10=> ?_)
     have hb10:Blk u10 b9 43 [.string (bs nm),nS,.string (bs []),nS,.slice AK kt.len cK]:=hU10.blk
     have hX10:Chg u8 u10 No:=hN9.chg.upd hU10 (hN9.ge (Chg.refl _ No))
     have hT10:=hT8.no hX10
     have hO10:=hO8.no hX10
     have hK10:=hKu8.no hX10
     have hC10:Chg w u10 (· =bt):=hC8.no hX10
     have hLnE: ∀la:List At,LnS l (r'+1+1) t ⟨nm,la,[]⟩ kt:=fun la=>by
      obtain ⟨_,g2,g3,g4,g5⟩:=hkok
      refine ⟨fun h=>absurd hnl (by rw [show nm= [] from h];decide),fun _=>⟨(show∀a∈tIn,a∈tInl by decide) nm hnl,kids_inl hnl ⟨g3,g5 nm (by simp) hnl⟩,g2⟩,by omega,fun nm' h1 h2=>⟨fun he=> ?_,g5 nm' (by simp [h1]) h2⟩⟩
      have he:nm=nm':=he
      exact hin (he▸h1)
     have hdE: ∀la:List At,LN la→(∀a∈la,a.1∈lKey∧a.2∈lVal)→HdOk ⟨nm,la,[]⟩:=fun la h1 h2=>⟨hnm,h1,h2,(by decide:([]:List UInt8)∈lTxs)⟩
     have hsz4:=lnZ_div r'
     refine zz ?_
     refine zEq (r:= [97]) rfl rfl (fun hca=> ?_) (fun hca=> ?_)
     ·refine zz ?_
      refine z_bsE (strs lHref) (want_L rfl) (by decide) rfl (by decide) (by decide) (by kernel_rfl) (fun u11 b11 hN11=> ?_)
      have hT11:=hT10.no hN11.chg
      refine zP rfl ?_
      refine zCl rfl (next_calls hT11 3 (by decide) (by decide) rfl) ?_
      rintro _ u12 ⟨⟨kh,hkh,rfl⟩,hT12,hX12⟩
      refine ⟨_,rfl,?_⟩
      have hb12:=keepT hT11 hX12 _ _ _ (by decide) hN11.blk
      have hb912:=keepT hT11 hX12 _ _ _ (by decide) (hb10.no hN11.chg)
      have hO12:=(hO10.no hN11.chg).tp hT11 hX12
      have hK12:=(hK10.no hN11.chg).tp hT11 hX12
      have hC12:Chg w u12 (· =bt):=(hC10.no hN11.chg).trans hX12 (fun _ _ h=>h)
      have hgh:=(hb12.cell kh).trans (strs_get lHref kh hkh)
      have hmh:=getD_mem lHref kh hkh
      generalize lHref.getD kh []=hv at hgh hmh
      refine zIa rfl rfl (zL1 rfl (cell_at hgh (by omega)) ?_)
      refine z_buildE #[.string (bs [104,114,101,102]),.string (bs hv)] (want_L rfl) (by decide) rfl (by kernel_rfl) ?_
      refine z_bsE (encA [([104,114,101,102],hv)]) (want_L rfl) (by decide) rfl (by decide) (by decide) (by kernel_rfl) (fun u13 b13 hN13=> ?_)
      have hT13:=hT12.no hN13.chg
      have hO13:=hO12.no hN13.chg
      have hK13:=hK12.no hN13.chg
      have hb913:=hb912.no hN13.chg
      have hC13:Chg w u13 (· =bt):=hC12.no hN13.chg
      have hA13:AtS u13 (.slice (some ⟨b13,0,none⟩) 1 1) [([104,114,101,102],hv)]:=RdS.new hN13 rfl (encA_one _)
      refine zfa rfl ?_
      refine z_store (want_L rfl) rfl rfl rfl (by assumption) (by first|exact Nat.le_refl _|simp [Value.cells]) (by simp [Value.cells,Value.oneCell']) (fun u14 hU14=> ?_)
      have hb914:Blk u14 b9 43 [.string (bs nm),.slice (some ⟨b13,0,none⟩) 1 1,.string (bs []),nS,.slice AK kt.len cK]:=hU14.blk
      have h9w:u8.heap.size≤b9:=hN9.ge (Chg.refl _ No)
      have hX813:Chg u8 u13 (· =bt):=((hX10.no hN11.chg).mono (S':=(· =bt)) (fun _ _ h=>h.elim)).trans (hX12.no hN13.chg) (fun _ _ h=>h)
      have hX814:Chg u8 u14 (· =bt):=hX813.trans hU14.chg (fun k hk he=>by omega)
      have hO14:=hO8.tp hT8 hX814
      have hK14:=hKu8.tp hT8 hX814
      have hT14:Tp u14 B bt:=hT13.oth hU14.chg (fun he=>by obtain ⟨cs,hb⟩:=hT13.blk;exact hb.ne hb913 (by decide) he) (fun k _ hk=>by have:=hT0.ge;have:=hT0.lt;omega)
      have hC14:Chg w u14 (· =bt):=hC8.trans hX814 (fun _ _ h=>h)
      have hA14:AtS u14 (.slice (some ⟨b13,0,none⟩) 1 1) [([104,114,101,102],hv)]:=RdS.chg hA13 hU14.chg (fun b cells hb he=>hb.ne hb913 (by decide) he)
      have hdA:=hdE [([104,114,101,102],hv)] ⟨by simp,by simp⟩ (by
       intro a ha
       simp only [List.mem_cons,List.not_mem_nil,or_false] at ha
       subst ha
       refine ⟨(by decide:([104,114,101,102]:List UInt8)∈lKey),?_⟩
       show hv∈lVal
       unfold lVal;simp only [List.mem_append];exact .inl (.inr hmh))
      refine zz ?_
      refine z_bsE (encM [⟨nm,.slice (some ⟨b13,0,none⟩) 1 1,[],nS,.slice AK kt.len cK⟩]) (want_L rfl) (by decide) rfl (by decide) (by decide) (by kernel_rfl) (fun p1 pb hP=> ?_)
      refine z_push (h:=⟨nm,[([104,114,101,102],hv)],[]⟩) (k:=kt) (m:=⟨nm,.slice (some ⟨b13,0,none⟩) 1 1,[],nS,.slice AK kt.len cK⟩) (want_L rfl) (by decide) rfl rfl hO14 ⟨rfl,hA14,rfl,isSl_nil⟩ hK14 (by have:=hC14.size;omega) hP (by omega) (fun p2 q2 hP2 hPC=> ?_)
      have hPT:=hT14.own hO14 (by have:=hT0.lt;have:=hT0.ge;omega) hPC
      have hPW:=Chg.own hC14 hO14 (Nat.le_refl _) hPC
      obtain ⟨pA,pc,hpv,_⟩:=hP2.form
      subst hpv
      refine zz ?_
      exact zk_midX (.slice pA _ pc,t.snoc ⟨nm,[([104,114,101,102],hv)],[]⟩ kt) ⟨hP2,AT.snoc_okp hok hdA hkok.1.1 mem0 (hLnE _),by rw [AT.snoc_len,hlen],by rw [AT.snoc_size];omega,hPT,hPW⟩ ⟨rfl,rfl,rfl,rfl,rfl,rfl,trivial⟩
     ·have hdA:=hdE [] ⟨by simp,by simp⟩ (by simp)
      refine zz ?_
      refine z_bsE (encM [⟨nm,nS,[],nS,.slice AK kt.len cK⟩]) (want_L rfl) (by decide) rfl (by decide) (by decide) (by kernel_rfl) (fun p1 pb hP=> ?_)
      refine z_push (h:=⟨nm,[],[]⟩) (k:=kt) (m:=⟨nm,nS,[],nS,.slice AK kt.len cK⟩) (want_L rfl) (by decide) rfl rfl hO10 ⟨rfl,AtS.nil _,rfl,isSl_nil⟩ hK10 (by have:=hC10.size;omega) hP (by omega) (fun p2 q2 hP2 hPC=> ?_)
      have hPT:=hT10.own hO10 (by have:=hT0.lt;have:=hT0.ge;omega) hPC
      have hPW:=Chg.own hC10 hO10 (Nat.le_refl _) hPC
      obtain ⟨pA,pc,hpv,_⟩:=hP2.form
      subst hpv
      refine zz ?_
      exact zk_midX (.slice pA _ pc,t.snoc ⟨nm,[],[]⟩ kt) ⟨hP2,AT.snoc_okp hok hdA hkok.1.1 mem0 (hLnE _),by rw [AT.snoc_len,hlen],by rw [AT.snoc_size];omega,hPT,hPW⟩ ⟨rfl,rfl,rfl,rfl,rfl,rfl,trivial⟩
theorem line_calls: ∀r,r≤6→LineC r
 |0,h=>line_body 0 h (fun r' hr=>by omega)
 |r+1,h=>line_body (r+1) h (fun r' hr=>by
   obtain rfl:r=r':=by omega
   exact line_calls r (by omega))
theorem AT.last: ∀t:AT,0<t.len→ ∃(t0:AT) (x:Hd) (k:AT),t=t0.snoc x k
 | .nil,h=>by simp [AT.len] at h
 | .cons x k .nil,_=>⟨.nil,x,k,rfl⟩
 | .cons x k (.cons y k' r),_=>by
  obtain ⟨t0,z,kz,e⟩:=AT.last (.cons y k' r) (by simp [AT.len])
  exact ⟨.cons x k t0,z,kz,by rw [e];rfl⟩
theorem AT.plain_last: ∀{t:AT} {x:Hd} {k:AT},(t.snoc x k).plain→x.text∈lTx0
 | .nil,x,k,h=>h.1
 | .cons y k' r,x,k,h=>AT.plain_last (t:=r) h.2
theorem AT.ok_last: ∀{t:AT} {x:Hd} {k:AT},(t.snoc x k).ok→t.ok∧HdOk x∧k.ok
 | .nil,x,k,h=>⟨trivial,h.1,h.2.1⟩
 | .cons y k' r,x,k,h=>by
  obtain ⟨h1,h2,h3⟩:=AT.ok_last (t:=r) h.2.2
  exact ⟨⟨h.1,h.2.1,h1⟩,h2,h3⟩
theorem RowsOk.last {w:World} {o:Nat→Prop}: ∀{t:AT} {x:Hd} {k:AT} {ms:List MA},RowsOk w o (t.snoc x k) ms→ ∃q m,ms=q++ [m]∧RowsOk w o t q∧HO w m x∧TreeOk w o m.kids k
 | .nil,x,k,ms,h=>by
  obtain ⟨m,q,h1,h2,h3,h4⟩:=h
  have:q= []:=h4
  subst this
  exact ⟨[],m,h1,rfl,h2,h3⟩
 | .cons y k' r,x,k,ms,h=>by
  obtain ⟨m,q,h1,h2,h3,h4⟩:=h
  obtain ⟨q',m',h5,h6,h7,h8⟩:=RowsOk.last (t:=r) h4
  exact ⟨m::q',m',by rw [h1,h5];rfl,⟨m,q',rfl,h2,h3,h6⟩,h7,h8⟩
theorem lay_last (q:List MA) (m:MA) (tx:List UInt8):Z.lay (encM (q++ [m])) (q.length*5+2) [.string (bs tx)]=encM (q++ [{m with text:=tx}]):=by
 unfold Z.lay
 rw [encM_app,encM_app]
 have hq:=encM_len q
 have e1:(encM q++encM [m]).take (q.length*5+2)=encM q++(encM [m]).take 2:=by
  rw [List.take_append,hq]
  rw [List.take_of_length_le (by rw [hq];omega)]
  congr 2;omega
 have e2:(encM q++encM [m]).drop (q.length*5+2+ [Value.string (bs tx)].length)=(encM [m]).drop 3:=by
  rw [List.drop_append,hq]
  rw [List.drop_of_length_le (by rw [hq];simp only [List.length_cons,List.length_nil];omega)]
  simp only [List.nil_append,List.length_cons,List.length_nil]
  congr 1;omega
 rw [e1,e2]
 simp [encM]
theorem Out.retext {B:Nat} {w:World} {vo:Value} {t:AT} {x:Hd} {k:AT} (h:Out B w vo (t.snoc x k)): ∃b c cells,vo= .slice (some ⟨b,0,none⟩) (t.len+1) c∧Blk w b 43 cells∧t.len*5+3≤cells.length∧
  w.cell? ⟨b,t.len*5,none⟩=some (.string (bs x.name))∧w.cell? ⟨b,t.len*5+2,none⟩=some (.string (bs x.text))∧B≤b∧
  ∀tx w',Upd w w' b 43 (Z.lay cells (t.len*5+2) [.string (bs tx)])→Out B w' vo (t.snoc {x with text:=tx} k):=by
 obtain ⟨ms,h1,h2,h3⟩:=h
 have hlen:=Out.len B h3
 rw [AT.snoc_len] at hlen
 obtain ⟨q,m,rfl,h6,h7,h8⟩:=RowsOk.last h3
 have hql:q.length=t.len:=by rw [List.length_append] at hlen;simpa using hlen
 obtain ⟨b,c,junk,hv,hc1,_,hb,hbl⟩: ∃b cap junk,vo= .slice (some ⟨b,0,none⟩) (q++ [m]).length cap∧(q++ [m]).length≤cap∧cap≤maxLen∧Blk w b 43 (encM (q++ [m])++junk)∧(encM (q++ [m])++junk).length=cap*5:=by
  rcases h1.cases.2 with ⟨_,h0,_⟩|h0
  ·simp at h0
  ·exact h0
 subst hv
 have hel:=encM_len (q++ [m])
 rw [List.length_append] at hel
 obtain ⟨cells,hbc,hlc,hcc,hup⟩:=Own.lay (o:=t.len*5+2) (vs:= [.string (bs [])]) h1 (by rw [hel];simp only [List.length_cons,List.length_nil];omega) (by simp [Value.oneCell'])
 have hinj:=hb.inj hbc
 have hce:cells=encM (q++ [m])++junk:=by have:=hinj.2;exact this.symm
 refine ⟨b,c,cells,by rw [hlen],hbc,by simpa using hlc,?_,?_,h2 b rfl,fun tx w' hU=> ?_⟩
 ·rw [hbc.cell]
  refine hcc _ _ ?_
  rw [encM_app,List.getElem?_append_right (by rw [encM_len];omega),encM_len,hql]
  simp [encM,h7.1]
 ·rw [hbc.cell]
  refine hcc _ _ ?_
  rw [encM_app,List.getElem?_append_right (by rw [encM_len];omega),encM_len,hql]
  simp [encM,h7.2.2.1]
 ·obtain ⟨cells2,hbc2,_,_,hup2⟩:=Own.lay (o:=t.len*5+2) (vs:= [.string (bs tx)]) h1 (by rw [hel];simp only [List.length_cons,List.length_nil];omega) (by simp [Value.oneCell'])
  have hc2:cells=cells2:=(hbc.inj hbc2).2
  subst hc2
  have hO:=hup2 w' hU
  rw [←hql,lay_last] at hO
  have hne: ∀b' cs,Blk w b' 43 cs→(B≤b'∧(Value.slice (some ⟨b,0,none⟩) (q++ [m]).length c).ownBlock≠some b')→ ¬b'=b:=fun b' cs _ hq he=>hq.2 (by rw [he];rfl)
  have h6':=RowsOk.chg hU.chg hne (fun b' cs hb' he=>hb'.ne hb (by decide) he) _ _ h6
  have h7a:AtS w' m.attrs x.attrs:=RdS.chg h7.2.1 hU.chg (fun b' cs hb' he=>hb'.ne hb (by decide) he)
  have h8':=h8.chg hU.chg hne (fun b' cs hb' he=>hb'.ne hb (by decide) he)
  refine ⟨q++ [{m with text:=tx}],by simpa using hO,h2,RowsOk.snoc (m:={m with text:=tx}) (x:={x with text:=tx}) ⟨h7.1,h7a,rfl,h7.2.2.2⟩ h8' _ _ h6'⟩
theorem tx_x: ∀x∈lTx0,x++ [120]∈lTxs:=by decide
theorem full_calls {w:World} {B bt:Nat} (hT0:Tp w B bt):Calls Tryz.prog 38 [.pointer (some ⟨bt,0,none⟩)].toArray w fun e w'=> ∃vo t,e= .returned vo∧Out w.heap.size w' vo t∧t.okf∧t.size≤1093∧Tp w' B bt∧Chg w w' (· =bt):=by
 refine zCz 33 Tryz.func38 ?_
 refine zz ?_
 refine zCl rfl (line_calls 5 (by decide) [] hT0 RdS.nil (by decide) (lv:=1) (by decide)) ?_
 rintro _ w1 ⟨vo,t,rfl,hO,hok,hl,hsz,hT,hC⟩
 refine ⟨_,rfl,?_⟩
 have hz5:lnZ 5=1092:=by decide
 rw [hz5] at hsz
 have hws:=hC.size
 obtain ⟨t0,x,k,rfl⟩:=t.last hl
 have hpl:=AT.plain_last hok.1.2
 obtain ⟨hk0,hkx,hkk⟩:=AT.ok_last hok.1.1
 obtain ⟨_,hsh,hln,hdp,_⟩:=hok
 rw [deepA_snoc] at hdp
 obtain ⟨b,c,cells,rfl,hb,hlen,hc0,hc2,hBb,hup⟩:=hO.retext
 have hls:=(t0.snoc x k).len_size
 rw [AT.snoc_len] at hls
 have e0:(((t0.len+1:Nat):Int) - 1).toNat=t0.len:=by omega
 refine zz ?_
 refine zL1 rfl (cell_at hc0 (by omega)) ?_
 refine zEq (r:= []) rfl rfl (fun hc=> ?_) (fun hc=> ?_)
 ·refine zz ?_
  refine zL1 rfl (cell_at hc2 (by omega)) ?_
  have htl:=tx_len _ hkx.2.2.2
  refine zz ?_
  refine z_store (want_L rfl) rfl rfl (by rfl) hb (by omega) (by simp [Value.cells,Value.oneCell']) (fun u2 hU2=> ?_)
  have e3:0+(((t0.len+1:Nat):Int) - 1).toNat*5+2=t0.len*5+2:=by omega
  rw [e3] at hU2
  have hO2:=hup (x.text++ [120]) u2 hU2
  have hkx2:HdOk {x with text:=x.text++ [120]}:=⟨hkx.1,hkx.2.1,hkx.2.2.1,tx_x _ hpl⟩
  refine zz ?_
  refine zk_ret1 (.inr rfl) rfl rfl ⟨_,_,rfl,hO2,⟨AT.snoc_ok hk0 hkx2 hkk,shp_retext (by simp) t0 hsh,lineA_retext t0 hln,by rw [deepA_snoc];omega⟩,by rw [AT.snoc_size] at hsz ⊢;omega,?_,?_⟩
  ·exact hT.oth hU2.chg (fun he=>by obtain ⟨cs,h30⟩:=hT.blk;exact h30.ne hb (by decide) he) (fun k _ hk=>by have:=hT0.lt;have:=hT0.ge;omega)
  ·exact hC.trans hU2.chg (fun k _ hk=>by omega)
 ·refine zz ?_
  refine z_buildE #[.string (bs []),nS,.string (bs [120]),nS,nS] (want_L rfl) (by decide) rfl (by kernel_rfl) ?_
  refine z_bsE (encM [⟨[],nS,[120],nS,nS⟩]) (want_L rfl) (by decide) rfl (by decide) (by decide) (by kernel_rfl) (fun p1 pb hP=> ?_)
  refine z_push (h:=⟨[],[],[120]⟩) (k:= .nil) (m:=⟨[],nS,[120],nS,nS⟩) (want_L rfl) (by decide) rfl rfl hO ⟨rfl,AtS.nil _,rfl,isSl_nil⟩ TreeOk.nil hws hP (by rw [AT.snoc_len];omega) (fun p2 q2 hP2 hPC=> ?_)
  have hd:HdOk ⟨[],[],[120]⟩:=⟨by decide,⟨by simp,by simp⟩,by simp,by decide⟩
  refine zz ?_
  exact zk_ret1 (.inr rfl) rfl rfl ⟨_,_,rfl,hP2,⟨AT.snoc_ok (AT.snoc_ok hk0 hkx hkk) hd trivial,shp_snoc ⟨fun _=>by decide,fun h=>absurd rfl h⟩ _ hsh,lineA_snoc (.inl rfl) _ hln (fun _=>lastNT_snoc hc t0),by rw [deepA_snoc,deepA_snoc];show max _ (1+0)≤7;omega⟩,by rw [AT.snoc_size];simp only [AT.size];omega,hT.own hO (by have:=hT0.lt;have:=hT0.ge;omega) hPC,Chg.own hC hO (Nat.le_refl _) hPC⟩
def blZ:Nat→Nat
 |0=>4000
 |d+1=>13*blZ d
def BlkC (lv d:Nat):Prop:= ∀{w:World} {B bt:Nat} {li:Int},Tp w B bt→li=(lv:Int)→Calls Tryz.prog 19 [.pointer (some ⟨bt,0,none⟩),.int .i64 li].toArray w fun e w'=> ∃vo t,e= .returned vo∧Out w.heap.size w' vo t∧t.okc tBlk (4*d+10)∧t.size≤blZ d∧Tp w' B bt∧Chg w w' (· =bt)∧0<t.len
def ItemC (lv d:Nat):Prop:= ∀{w:World} {B bt:Nat} {li:Int},Tp w B bt→li=(lv:Int)→Calls Tryz.prog 39 [.pointer (some ⟨bt,0,none⟩),.int .i64 li].toArray w fun e w'=> ∃vo t,e= .returned vo∧Out w.heap.size w' vo t∧t.oki (4*d+10)∧t.size≤blZ d∧Tp w' B bt∧Chg w w' (· =bt)
theorem blZ_ge: ∀d,4000≤blZ d
 |0=>Nat.le_refl _
 |d+1=>by have:=blZ_ge d;simp only [blZ];omega
theorem item_calls {lv d:Nat} (hl:lv≤100) (h:BlkC (lv+1) d):ItemC lv d:=by
 intro w B bt li hT0 hli
 have hz:=blZ_ge d
 refine zCz 17 Tryz.func39 ?_
 refine zz ?_
 refine zCl rfl (next_calls hT0 4 (by decide) (by decide) rfl) ?_
 rintro _ w1 ⟨⟨k,hk,rfl⟩,hT,hC⟩
 refine ⟨_,rfl,?_⟩
 have hws:=hC.size
 by_cases h0:k=0
 ·subst h0
  refine zz ?_
  exact zk_ret1 (.inr rfl) rfl rfl ⟨_,.nil,rfl,Out.nil,⟨trivial,trivial,.inl trivial,Nat.zero_le _⟩,by simp [AT.size],hT,hC⟩
 by_cases h1:k=1
 ·subst h1
  refine zz ?_
  refine zCl rfl (h (li:=li+1) hT (by omega)) ?_
  rintro _ w2 ⟨vo,t,rfl,hO,hok,hsz,hT2,hC2,_⟩
  refine ⟨_,rfl,?_⟩
  refine zz ?_
  exact zk_ret1 (.inr rfl) rfl rfl ⟨_,t,rfl,hO.less hws,⟨hok.1,hok.2.1,.inl hok.2.2.1,hok.2.2.2⟩,hsz,hT2,hC.trans hC2 (fun _ _ h=>h)⟩
 ·refine zz ?_
  refine zCl rfl (line_calls 5 (by decide) [] hT RdS.nil (by decide) (lv:=1) (by decide)) ?_
  rintro _ w2 ⟨vo,t,rfl,hO,hok,_,hsz,hT2,hC2⟩
  refine ⟨_,rfl,?_⟩
  have hz5:lnZ 5=1092:=by decide
  refine zz ?_
  exact zk_ret1 (.inr rfl) rfl rfl ⟨_,t,rfl,hO.less hws,⟨hok.1.1,hok.2.1,.inr hok.2.2.1,by have:=hok.2.2.2.1;omega⟩,by omega,hT2,hC.trans hC2 (fun _ _ h=>h)⟩
theorem titled_calls {w:World} {A F K:Value} {nm tx:List UInt8} {k:AT} (hA:isSl A) (hF:isSl F) (hK:TreeAt false w K k) (hsz:k.size≤1000000000000):
  Calls Tryz.prog 67 [.agg #[.string (bs nm),A,.string (bs tx),F,K]].toArray w fun e w'=>(∃q:Bool,e= .returned (.bool q))∧Chg w w' No:=by
 obtain ⟨A1,m1,c1,rfl⟩:=hA
 obtain ⟨A2,m2,c2,rfl⟩:=hF
 obtain ⟨AK,cK,rfl,hcK⟩:=hK.form
 have hls:=k.len_size
 refine zCz 48 Tryz.func67 ?_
 refine zS (zR ?_)
 refine zBx rfl (fun w1 b1 hN1=> ?_)
 have hb1:Blk w1 b1 43 [.string (bs nm),.slice A1 m1 c1,.string (bs tx),.slice A2 m2 c2,.slice AK k.len cK]:=hN1.blk
 refine zz ?_
 refine zc_loopW (ι:=Nat) (fun i u=> [(1,.pointer (some ⟨b1,0,none⟩)),(3,.int .i64 i)]) (fun i u=>i≤k.len∧Chg w1 u No) (fun i u=>k.len - i) 0 ⟨Nat.zero_le _,Chg.refl _ _⟩ ?_ ?_
 ·exact ⟨rfl,rfl,trivial⟩
 rintro i u ⟨hi,hC⟩
 have hbu:=hb1.no hC
 by_cases hlt:i<k.len
 rotate_left
 ·obtain rfl:i=k.len:=by omega
  refine zz ?_
  exact zk_ret1 (.inr rfl) rfl rfl ⟨⟨false,rfl⟩,hN1.chg.no hC⟩
 obtain ⟨b,o,c',x,k2,r,A',F',K',e1,hv,hN,hAx,hFx,hK2⟩:=((hK.no hN1.chg).no hC).at_ i hlt
 cases hv
 obtain ⟨AK2,cK2,rfl,hcK2⟩:=hK2.form
 have hsz1:=k.drop_size i
 rw [e1] at hsz1
 simp only [AT.size] at hsz1
 have hls2:=k2.len_size
 refine zz ?_
 refine zc_loopW (ι:=Nat) (fun j v=> [(1,.pointer (some ⟨b1,0,none⟩)),(3,.int .i64 i),(4,.int .i64 j)]) (fun j v=>j≤k2.len∧Chg u v No) (fun j v=>k2.len - j) 0 ⟨Nat.zero_le _,Chg.refl _ _⟩ ?_ ?_
 ·exact ⟨rfl,rfl,rfl,trivial⟩
 rintro j v ⟨hj,hCv⟩
 have hbv:=hbu.no hCv
 have hNv:=hN.no hCv
 have hc4:=hNv.c4
 by_cases hltj:j<k2.len
 rotate_left
 ·obtain rfl:j=k2.len:=by omega
  refine zz ?_
  exact zk_loopW (i+1) ⟨by omega,hC.no hCv⟩ (by omega) ⟨rfl,get_int rfl (by simp),trivial⟩
 obtain ⟨b3,o3,c3',x3,k3,r3,A3,F3,K3,e3,hv3,hN3,hAx3,⟨FA,Fm,Fc,rfl⟩,hK3⟩:=(hK2.no hCv).at_ j hltj
 cases hv3
 obtain ⟨AA3,cA3,rfl,_⟩:=hAx3.form
 obtain ⟨AK3,cK3,rfl,hcK3⟩:=hK3.form
 have hsz3:=k2.drop_size j
 rw [e3] at hsz3
 simp only [AT.size] at hsz3
 have hls3:=k3.len_size
 refine zz ?_
 refine z_loadA (by rfl) (want_L rfl) (by decide) rfl (hN3.agg (by omega)) ?_
 refine zAl (fun v1 b5 hN5=> ?_)
 have hb5:Blk v1 b5 43 [.string ⟨#[]⟩,nS,.string ⟨#[]⟩,nS,nS]:=hN5.blk
 refine z_store (want_L rfl) rfl rfl rfl (by assumption) (by first|exact Nat.le_refl _|simp [Value.cells]) (by simp [Value.cells,Value.oneCell']) (fun v2 hU5=> ?_)
 have hb52:Blk v2 b5 43 [.string (bs x3.name),.slice AA3 x3.attrs.length cA3,.string (bs x3.text),.slice FA Fm Fc,.slice AK3 k3.len cK3]:=hU5.blk
 have hX5:Chg v v2 No:=hN5.chg.upd hU5 (hN5.ge (Chg.refl _ No))
 refine zz ?_
 refine zc_loopW (ι:=Nat) (fun m z=> [(1,.pointer (some ⟨b1,0,none⟩)),(3,.int .i64 i),(4,.int .i64 j),(5,.pointer (some ⟨b5,0,none⟩)),(6,.int .i64 m)]) (fun m z=>m≤k3.len∧Chg v2 z No) (fun m z=>k3.len - m) 0 ⟨Nat.zero_le _,Chg.refl _ _⟩ ?_ ?_
 ·exact ⟨rfl,rfl,rfl,rfl,rfl,trivial⟩
 rintro m z ⟨hm,hCz⟩
 have hb5z:=hb52.no hCz
 by_cases hltm:m<k3.len
 rotate_left
 ·obtain rfl:m=k3.len:=by omega
  refine zz ?_
  exact zk_loopW (j+1) ⟨by omega,(hCv.no hX5).no hCz⟩ (by omega) ⟨rfl,rfl,get_int rfl (by simp),trivial⟩
 obtain ⟨b7,o7,c7,x7,k7,r7,A7,F7,K7,e7,hv7,hN7,_⟩:=((hK3.no hX5).no hCz).at_ m hltm
 cases hv7
 have hc70:=hN7.c0
 refine zz ?_
 refine zEq (r:= [116,104]) rfl rfl (fun hc=> ?_) (fun hc=> ?_)
 ·refine zz ?_
  exact zk_ret1 (.inr rfl) rfl rfl ⟨⟨true,rfl⟩,((hN1.chg.no hC).no hCv).no (hX5.no hCz)⟩
 ·refine zz ?_
  exact zk_loopW (m+1) ⟨by omega,hCz⟩ (by omega) ⟨rfl,rfl,rfl,rfl,get_int rfl (by simp),trivial⟩
end Go.Proofs.YtbcmiijollpgeaaGreat.T
namespace Go.Z
open Go
section
variable {P : Program} {n : Nat} {e : Env} {w : World} {Q : Exit → Act → World → Prop}
structure LkK (ops:Array Oper) (n:Nat) (e0:Env) (G:Nat→Value→World→Prop) (T:World→Prop) (D K:Nat→Prop) (a:Act) (w:World):Prop where
 ok:Ok n e0 a
 t:T w
 dep: ∀j,D j→ ∀d,dstOf ops j=some d→ ∃v,a.tmps[d]? =some v∧(¬K j→G j v w)
def StepK (P:Program) (ops:Array Oper) (n m:Nat) (e0:Env) (G:Nat→Value→World→Prop) (kill:Nat→Nat) (T:Array Bool→World→Prop) (Q:Exit→Act→World→Prop) (i:Nat):Prop:=
 ∀b a w,b.size=ops.size→b.getD i false=false→(∀k j,b.getD k false=true→waits ops k j=true→b.getD j false=true)→LkK ops n e0 G (T b) (fun j=>waits ops i j=true) (fun j=> ¬(kill j=i∨m≤kill j)) a w→ ∃d,dstOf ops i=some d∧wpOp P ops (NP Q) i (fun a' w'=> ∃v,a'=a.put (some d) v∧G i v w'∧T (b.setIfInBounds i true) w'∧ ∀j u,j≠i→kill j≠i→G j u w→G j u w') a w
theorem LkK.put {ops:Array Oper} {e0:Env} {G:Nat→Value→World→Prop} {kill:Nat→Nat} {T T':World→Prop} {m:Nat} (hok:okDst (e0.map Prod.fst) n m ops=true) {D K:Nat→Prop} (hD: ∀j,D j→j<m) {a:Act} {w w':World} (h:LkK ops n e0 G T D K a w) {i:Nat} (hi:i<m) (hni: ¬D i) {d:Tmp} (hd:dstOf ops i=some d) {v:Value}
  (hG:G i v w') (hT:T' w') (hf: ∀j u,j≠i→kill j≠i→G j u w→G j u w'):LkK ops n e0 G T' (fun j=>D j∨j=i) (fun j=>K j∨kill j=i) (a.put (some d) v) w':=by
 obtain ⟨d',hd',hdn,hdk,hdo⟩:=okDst_at hok hi
 rw [hd] at hd';cases hd'
 have hsz:=h.ok.size
 refine ⟨⟨h.ok.defers,by simp [Act.put,hsz],fun k u hk=> ?_⟩,hT,fun j hj dj hdj=> ?_⟩
 ·have hne:d≠k:=fun he=>hdk (he▸get_keys e0 k u hk)
  simp only [Act.put,Array.getElem?_setIfInBounds_ne hne]
  exact h.ok.at_ k u hk
 ·rcases hj with hj|rfl
  ·obtain ⟨u,h1,h2⟩:=h.dep j hj dj hdj
   have hne:d≠dj:=fun he=>hdo j (hD j hj) (fun hji=>hni (hji▸hj)) (he▸hdj)
   exact ⟨u,by simp only [Act.put,Array.getElem?_setIfInBounds_ne hne];exact h1,fun hk=>hf j u (fun he=>hni (he▸hj)) (fun he=>hk (.inr he)) (h2 (fun he=>hk (.inl he)))⟩
  ·rw [hd] at hdj;cases hdj
   exact ⟨v,by simp [Act.put,hsz,hdn],fun _=>hG⟩
theorem zc_drawK {id:Nat} {l:List Oper} (m:Nat) (G:Nat→Value→World→Prop) (kill:Nat→Nat) (T:Array Bool→World→Prop) (e0:Env) (hm:P.follows .mixedOrders=true) (hok:okDst (e0.map Prod.fst) n m l.toArray=true) (hfw:fwd l.toArray=true) (hsub:Sub e0 e) (hT: ∀w',Chg w w' No→w'.heap=w.heap→T (Array.replicate l.toArray.size false) w')
  (hstep: ∀i,i<m→StepK P l.toArray n m e0 G kill T Q i) (hmz:m≤l.toArray.size) (hlast:m<l.toArray.size→m+1=l.toArray.size∧lastOk l.toArray m=true)
  (hfin: ∀b a w',LkK l.toArray n e0 G (T b) (fun j=>j<m) (fun j=> ¬m≤kill j) a w'→if m<l.toArray.size then wpOp P l.toArray (NP Q) m (NP Q .normal) a w' else NP Q .normal a w'):ZC P n (.region id l.toArray true) e w Q:=by
 unfold ZC
 intro a ha
 refine wp_mono (wp_region_any (Q:=NP Q) hm ?_) NP.le
 refine wpAny_inv (fun b a w=>(b.getD m false=false∧(∀k j,b.getD k false=true→waits l.toArray k j=true→b.getD j false=true)∧LkK l.toArray n e0 G (T b) (fun j=>j<m∧b.getD j false=true) (fun j=>b.getD (kill j) false=true) a w)∨(b.getD m false=true∧(∀j,j<m→b.getD j false=true)∧NP Q .normal a w)) ?_ ?_ _ _ _ _ (by simp) (by simp [List.count_replicate]) ?_
 ·intro b a w i hsz hi h
  obtain ⟨h0,o,ho,_⟩:=mem_ready.1 hi
  have hlt:i<l.toArray.size:=(Array.getElem?_eq_some_iff.1 ho).1
  have hb:b.getD i false=false:=by
   have h1:i<b.size:=by omega
   simpa [h1] using h0
  rcases h with ⟨hbm,hcl,h⟩|⟨hbm,hall,_⟩
  ·by_cases him:i<m
   ·have hni: ¬(i<m∧b.getD i false=true):=fun hh=>by rw [hb] at hh;cases hh.2
    have hjm: ∀j,waits l.toArray i j=true→j<m:=fun j hj=>by
     have hfi:=List.all_eq_true.1 hfw i (List.mem_range.2 hlt)
     simp only [ho] at hfi
     simp only [waits,ho] at hj
     obtain ⟨e,he,hbe⟩:=Array.any_eq_true'.1 hj
     simp only [Bool.and_eq_true,beq_iff_eq] at hbe
     have h3:=Array.all_eq_true_iff_forall_mem.1 hfi e he
     have h4:e.on<i:=by simpa using h3
     omega
    have hkl: ∀j,(kill j=i∨m≤kill j)→b.getD (kill j) false=false:=fun j hj=>by
     rcases hj with hj|hj
     ·rw [hj];exact hb
     ·rcases Nat.lt_or_ge (kill j) b.size with h'|h'
      ·have:kill j=m:=by
        have:=hlast (by omega)
        omega
       rw [this];exact hbm
      ·simp [Array.getElem?_eq_none h']
    obtain ⟨d,hd,hw⟩:=hstep i him b a w hsz hb hcl ⟨h.ok,h.t,fun j hj d hd=>by
     obtain ⟨v,h1,h2⟩:=h.dep j ⟨hjm j hj,waits_of hi hj⟩ d hd
     exact ⟨v,h1,fun hk=>h2 (fun he=>by rw [hkl j (Classical.not_not.1 hk)] at he;cases he)⟩⟩
    refine wpOp_mono (fun a' w' ⟨v,ha',hG,hT',hf⟩=> .inl ⟨?_,?_,?_⟩) hw
    ·rw [gd_ne (show i≠m by omega)];exact hbm
    ·intro k j hk hw'
     have hji:j≠i→(b.setIfInBounds i true).getD j false=b.getD j false:=fun h=>gd_ne (Ne.symm h) false
     by_cases hj:j=i
     ·subst hj
      have h3:j<b.size:=by omega
      simp [h3]
     ·rw [hji hj]
      by_cases hk':k=i
      ·subst hk';exact waits_of hi hw'
      ·rw [gd_ne (Ne.symm hk')] at hk
       exact hcl k j hk hw'
    ·subst ha'
     have:=LkK.put hok (fun j hj=>hj.1) h him hni hd hG hT' hf
     refine ⟨this.ok,this.t,fun j hj dj hdj=> ?_⟩
     obtain ⟨v,h1,h2⟩:=this.dep j (by
      by_cases hji:j=i
      ·exact .inr hji
      ·refine .inl ⟨hj.1,?_⟩
       have:=hj.2
       rwa [gd_ne (Ne.symm hji)] at this) dj hdj
     refine ⟨v,h1,fun hk=>h2 (fun he=>hk ?_)⟩
     rcases he with he|he
     ·by_cases hki:i=kill j
      ·rw [←hki] at he;rw [hb] at he;cases he
      ·rw [gd_ne hki];exact he
     ·rw [he]
      have h3:i<b.size:=by omega
      simp [h3]
   ·have hml:m<l.toArray.size:=by omega
    obtain ⟨h5,h6⟩:=hlast hml
    obtain rfl:i=m:=by omega
    have hall: ∀j,j<i→b.getD j false=true:=fun j hj=>waits_of hi (List.all_eq_true.1 h6 j (List.mem_range.2 hj))
    have hkl: ∀j,i≤kill j→b.getD (kill j) false=false:=fun j hj=>by
     rcases Nat.lt_or_ge (kill j) b.size with h'|h'
     ·have:kill j=i:=by omega
      rw [this];exact hbm
     ·simp [Array.getElem?_eq_none h']
    have h7:=hfin b a w ⟨h.ok,h.t,fun j hj d hd=>by
     obtain ⟨v,h1,h2⟩:=h.dep j ⟨hj,hall j hj⟩ d hd
     exact ⟨v,h1,fun hk=>h2 (fun he=>by rw [hkl j (Classical.not_not.1 hk)] at he;cases he)⟩⟩
    rw [if_pos hml] at h7
    refine wpOp_mono (fun a' w' hq=> .inr ⟨?_,fun j hj=> ?_,hq⟩) h7
    ·have h1:i<b.size:=by omega
     simp [h1]
    ·have:=hall j hj
     rwa [gd_ne (show i≠j by omega)]
  ·exfalso
   rcases Nat.lt_trichotomy i m with h1|h1|h1
   ·rw [hall i h1] at hb;cases hb
   ·subst h1;rw [hbm] at hb;cases hb
   ·have:=(hlast (by omega)).1;omega
 ·intro b a w hsz h0 h
  rcases h with ⟨hbm,_,h⟩|⟨_,_,hq⟩
  ·have hlv:=fwd_live hfw hsz h0
   have hml: ¬m<l.toArray.size:=fun hh=>by
    have:=hlv m hh
    rw [hbm] at this;cases this
   have hkl: ∀j,m≤kill j→b.getD (kill j) false=false:=fun j hj=>by
    have h':b.size≤kill j:=by omega
    simp [Array.getElem?_eq_none h']
   have:=hfin b a w ⟨h.ok,h.t,fun j hj d hd=>by
    obtain ⟨v,h1,h2⟩:=h.dep j ⟨hj,hlv j (by omega)⟩ d hd
    exact ⟨v,h1,fun hk=>h2 (fun he=>by rw [hkl j (Classical.not_not.1 hk)] at he;cases he)⟩⟩
   rwa [if_neg hml] at this
  ·exact hq
 ·refine .inl ⟨gd_rep _ _,(by intro k j hk;rw [gd_rep] at hk;cases hk),ha.sub hsub,hT _ ⟨rfl,rfl,rfl,Nat.le_refl _,fun _ _ _=>rfl⟩ rfl,fun j hj=> ?_⟩
  have:=hj.2
  rw [gd_rep] at this;cases this
end
end Go.Z
