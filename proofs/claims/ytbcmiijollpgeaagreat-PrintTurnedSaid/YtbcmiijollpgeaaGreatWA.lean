import Derived.Deep.LoopGhost
import Derived.Deep.Quiet
import Derived.KernelRfl
import Derived.Laws.AppendOwn
import Derived.Laws.BytesString
import Derived.Laws.Runes
import Derived.Laws.StructEq
import Derived.Lib.Builder
import Derived.Lib.ConvBytes
import Derived.Lib.OthersKept
import Derived.LoopN
import Derived.OrdersHeld
import Derived.WalkKit
set_option maxHeartbeats 32000000
set_option maxRecDepth 100000
set_option linter.unusedVariables false
set_option linter.unusedSimpArgs false
namespace Go.Z
open Go
abbrev Env:=List (Nat×Value)
def Env.get:Env→Nat→Option Value
 | [],_=>none
 |(j,v)::r,k=>if j=k then some v else Env.get r k
structure Ok (n:Nat) (e:Env) (a:Act):Prop where
 defers:a.defers= []
 size:a.tmps.size=n
 at_: ∀k v,Env.get e k=some v→a.tmps[k]? =some v
def ev (e:Env):Operand→Option Value
 | .tmp t=>Env.get e t
 | .const v=>some v
 | .global g=>some (.pointer (some ⟨g,0,none⟩))
 | .func f=>some (.func (.func f) #[] #[])
theorem Ok.ev {n:Nat} {e:Env} {a:Act} (h:Ok n e a) {x:Operand} {v:Value} (hx:ev e x=some v):a.eval x=v:=by
 cases x with
 |tmp t=>have:=h.at_ t v hx;simp [Act.eval,Array.getD_eq_getD_getElem?,this]
 |const u=>simpa [Z.ev,Act.eval] using hx
 |global g=>simpa [Z.ev,Act.eval] using hx
 |func f=>simpa [Z.ev,Act.eval] using hx
theorem Ok.put {n:Nat} {e:Env} {a:Act} (h:Ok n e a) (d:Nat) (v:Value) (hd:d<n):Ok n ((d,v)::e) (a.put (some d) v):=by
 refine ⟨h.defers,by simp [Act.put,h.size],fun k u hk=> ?_⟩
 simp only [Env.get] at hk
 simp only [Act.put,Array.getElem?_setIfInBounds]
 split at hk
 ·rename_i hdk
  subst hdk
  rw [if_pos rfl,if_pos (by rw [h.size];exact hd)]
  exact hk
 ·rename_i hdk
  rw [if_neg hdk]
  exact h.at_ k u hk
def Sub:Env→Env→Prop
 | [],_=>True
 |(k,v)::r,e=>Env.get e k=some v∧Sub r e
theorem get_int {e:Env} {k:Nat} {t:IntKind} {a b:Int} (h:Env.get e k=some (.int t a)) (hab:a=b):Env.get e k=some (.int t b):=by rw [h,hab]
theorem Sub.get: ∀{e' e:Env},Sub e' e→ ∀k v,Env.get e' k=some v→Env.get e k=some v
 | [],_,_,k,v,h=>by simp [Env.get] at h
 |(j,u)::r,e,hs,k,v,h=>by
  simp only [Env.get] at h
  split at h
  ·rename_i hjk;subst hjk;cases h;exact hs.1
  ·exact Sub.get hs.2 k v h
theorem Ok.sub {n:Nat} {e e':Env} {a:Act} (h:Ok n e a) (hs:Sub e' e):Ok n e' a:=⟨h.defers,h.size,fun k v hk=>h.at_ k v (hs.get k v hk)⟩
section
variable (P : Program) (n : Nat)
def ZC (c:Code) (e:Env) (w:World) (Q:Exit→Act→World→Prop):Prop:= ∀a,Ok n e a→c.wp P Q a w
def ZL (ops:Array Oper) (l:List Oper) (e:Env) (w:World) (Q:Exit→Act→World→Prop):Prop:= ∀a,Ok n e a→wpList P ops Q l a w
def ZK (n:Nat) (x:Exit) (e:Env) (w:World) (Q:Exit→Act→World→Prop):Prop:= ∀a,Ok n e a→Q x a w
end
section
variable {P : Program} {n : Nat} {e : Env} {w : World} {Q : Exit → Act → World → Prop}
theorem zS {x y:Code} (h:ZC P n x e w (Exit.then (y.wp P Q) Q)):ZC P n (.seq x y) e w Q:=fun a ha=>wp_seq (h a ha)
theorem zR {id:Nat} {l:List Oper} (h:ZL P n l.toArray l e w Q):ZC P n (.region id l.toArray false) e w Q:=fun a ha=>wp_region_lit (h a ha)
theorem zN {ops:Array Oper} (h:ZK n .normal e w Q):ZL P n ops [] e w Q:=fun a ha=>wpList_nil (h a ha)
theorem zA (h:ZK n .normal e w Q):ZC P n .skip e w Q:=fun a ha=>wp_skip (h a ha)
theorem zE (h:ZK n .ret e w Q):ZC P n .ret e w Q:=fun a ha=>wp_ret (h a ha)
theorem zL {id:Nat} (h:ZK n (.exit id) e w Q):ZC P n (.exit id) e w Q:=fun a ha=>wp_exit (h a ha)
theorem zB {id:Nat} {c:Code} (h:ZC P n c e w (Exit.inBlock id Q)):ZC P n (.block id c) e w Q:=fun a ha=>wp_block (h a ha)
theorem zT {c:Operand} {x y:Code} (hc:ev e c=some (.bool true)) (h:ZC P n x e w Q):ZC P n (.cond c x y) e w Q:=fun a ha=>wp_cond_true (ha.ev hc) (h a ha)
theorem zF {c:Operand} {x y:Code} (hc:ev e c=some (.bool false)) (h:ZC P n y e w Q):ZC P n (.cond c x y) e w Q:=fun a ha=>wp_cond_false (ha.ev hc) (h a ha)
theorem zK {c:Code} {Q':Exit→Act→World→Prop} (h:ZC P n c e w Q'):ZK n .normal e w (Exit.then (c.wp P Q') Q):=fun a ha=>h a ha
theorem zX {id:Nat} {K:Act→World→Prop} (h:ZK n (.exit id) e w Q):ZK n (.exit id) e w (Exit.then K Q):=h
theorem zQ {K:Act→World→Prop} (h:ZK n .ret e w Q):ZK n .ret e w (Exit.then K Q):=h
theorem zW {id:Nat} (h:ZK n .ret e w Q):ZK n .ret e w (Exit.inBlock id Q):=h
theorem zM {id:Nat} (h:ZK n .normal e w Q):ZK n .normal e w (Exit.inBlock id Q):=h
theorem zY {id:Nat} (h:ZK n .normal e w Q):ZK n (.exit id) e w (Exit.inBlock id Q):=fun a ha=>by
 show (if id=id then Q .normal a w else Q (.exit id) a w);rw [if_pos rfl];exact h a ha
theorem zY' {id id':Nat} (hne:(id'==id)=false) (h:ZK n (.exit id') e w Q):ZK n (.exit id') e w (Exit.inBlock id Q):=fun a ha=>by
 show (if id'=id then Q .normal a w else Q (.exit id') a w);rw [if_neg (by simpa using hne)];exact h a ha
theorem zc_loop {ι:Type} (E:ι→Env) (W:ι→World) (I:ι→Prop) (m:ι→Nat) {c:Code} (i0:ι) (h0:I i0) (hW:W i0=w) (hE:Sub (E i0) e)
  (round: ∀i,I i→ZC P n c (E i) (W i) (Exit.then (fun a w'=> ∃j,I j∧m j<m i∧W j=w'∧Ok n (E j) a) Q)):ZC P n (.loop c) e w Q:=fun a ha=>by
 refine wp_loop_ghost (fun k a w=> ∃i,m i=k∧I i∧W i=w∧Ok n (E i) a) (m i0) ⟨i0,rfl,h0,hW,ha.sub hE⟩ ?_
 rintro k a w ⟨i,rfl,hI,rfl,hOk⟩
 refine wp_mono (round i hI a hOk) ?_
 intro x a' w' hq
 cases x with
 |normal=>obtain ⟨j,hj,hlt,hw,hok⟩:=hq;exact ⟨m j,hlt,j,rfl,hj,hw,hok⟩
 |exit id=>exact hq
 |goto l=>exact hq
 |ret=>exact hq
 |panic ch=>exact hq
 |outgrown=>exact hq
theorem zk_loop {ι:Type} {E:ι→Env} {W:ι→World} {I:ι→Prop} {m:ι→Nat} {k:Nat} (j:ι) (hI:I j) (hm:m j<k) (hW:W j=w) (hE:Sub (E j) e):
  ZK n .normal e w (Exit.then (fun a w'=> ∃j,I j∧m j<k∧W j=w'∧Ok n (E j) a) Q):=fun a ha=>⟨j,hI,hm,hW,ha.sub hE⟩
theorem zk_ret1 {x:Exit} (hx:x= .normal∨x= .ret) {fn:Func} {R:Ending→World→Prop} {t:Tmp} {v:Value} (hr:fn.results= #[.tmp t]) (hv:Env.get e t=some v) (h:R (.returned v) w):ZK n x e w (bodyPost P fn R):=fun a ha=>by
 have hq:a.defers= []∧ ∃v,(results fn a.tmps).run P w= .ok v w∧R (.returned v) w:=⟨ha.defers,v,by rw [results_tmp hr,Array.getD_eq_getD_getElem?,ha.at_ t v hv];rfl,h⟩
 rcases hx with rfl|rfl<;>exact hq
theorem zk_ret0 {x:Exit} (hx:x= .normal∨x= .ret) {fn:Func} {R:Ending→World→Prop} (hr:fn.results= #[]) (h:R (.returned (.tuple #[])) w):ZK n x e w (bodyPost P fn R):=fun a ha=>by
 have hq:a.defers= []∧ ∃v,(results fn a.tmps).run P w= .ok v w∧R (.returned v) w:=⟨ha.defers,_,results_none hr a.tmps P w,h⟩
 rcases hx with rfl|rfl<;>exact hq
theorem zk_ret2 {x:Exit} (hx:x= .normal∨x= .ret) {fn:Func} {R:Ending→World→Prop} {t u:Tmp} {v1 v2:Value} (hr:fn.results= #[.tmp t,.tmp u]) (hv1:Env.get e t=some v1) (hv2:Env.get e u=some v2)
  (h:R (.returned (.tuple #[v1,v2])) w):ZK n x e w (bodyPost P fn R):=fun a ha=>by
 have hq:a.defers= []∧ ∃v,(results fn a.tmps).run P w= .ok v w∧R (.returned v) w:=
  ⟨ha.defers,.tuple #[v1,v2],by rw [results_tmp2 hr,Array.getD_eq_getD_getElem?,ha.at_ t v1 hv1,Array.getD_eq_getD_getElem?,ha.at_ u v2 hv2];rfl,h⟩
 rcases hx with rfl|rfl<;>exact hq
theorem zk_retR {x:Exit} (hx:x= .normal∨x= .ret) {fn:Func} {R:Ending→World→Prop} {v:Value} (hr: ∀a,Ok n e a→(results fn a.tmps).run P w= .ok v w) (h:R (.returned v) w):ZK n x e w (bodyPost P fn R):=fun a ha=>by
 have hq:a.defers= []∧ ∃v,(results fn a.tmps).run P w= .ok v w∧R (.returned v) w:=⟨ha.defers,v,hr a ha,h⟩
 rcases hx with rfl|rfl<;>exact hq
def envOf:List Value→Nat→Env
 | [],_=> []
 |v::r,k=>(k,v)::envOf r (k+1)
theorem envOf_get: ∀(l:List Value) (k j:Nat) (v:Value),Env.get (envOf l k) j=some v→k≤j∧l[j - k]? =some v
 | [],k,j,v,h=>by simp [envOf,Env.get] at h
 |u::r,k,j,v,h=>by
  simp only [envOf,Env.get] at h
  split at h
  ·rename_i hk;subst hk;cases h;simp
  ·obtain ⟨h1,h2⟩:=envOf_get r (k+1) j v h
   refine ⟨by omega,?_⟩
   rw [show j - k=(j - (k+1))+1 by omega]
   simpa using h2
theorem calls_zc {f:FuncId} {fn:Func} {c:Code} {args:List Value} {R:Ending→World→Prop} (hf:P.funcs[f]? =some fn) (hb:fn.body=some c) (hn:fn.ntmps=n) (hle:args.length≤n)
  (h:ZC P n c (envOf args 0) w (bodyPost P fn R)):Calls P f args.toArray w R:=by
 refine calls_of_wp hf hb (h _ ⟨rfl,by simp [hn];omega,fun k v hk=> ?_⟩)
 obtain ⟨_,h2⟩:=envOf_get args 0 k v hk
 have hlt:k<args.length:=(List.getElem?_eq_some_iff.1 (by simpa using h2)).1
 rw [Array.getElem?_append_left (by simpa using hlt)]
 simpa using h2
end
section
variable {P : Program} {n : Nat} {e : Env} {w : World} {Q : Exit → Act → World → Prop} {ops : Array Oper} {rest : List Oper}
def Want (ops:Array Oper) (e:Env) (g:Option (Nat×Bool)):Prop:= ∀j b,g=some (j,b)→ ∃t,(ops[j]?).bind (·.dst)=some t∧Env.get e t=some (.bool b)
theorem want_none:Want ops e none:=fun _ _ h=>by cases h
theorem Want.wanted {o:Oper} {a:Act} (h:Want ops e o.guard) (ha:Ok n e a):Region.wanted o (yielded ops a.tmps)=true:=by
 unfold Region.wanted
 split
 ·rfl
 ·rename_i j b hg
  obtain ⟨t,h1,h2⟩:=h j b hg
  simp [yielded,h1,ha.at_ t _ h2]
theorem zl_run {o:Oper} {d:Tmp} {v:Value} {w':World} (hw:Want ops e o.guard) (hd:o.dst=some d) (hdn:d<n) (hr: ∀a,Ok n e a→(execOp a.eval o).run P w= .ok (.value v) w')
  (h:ZL P n ops rest ((d,v)::e) w' Q):ZL P n ops (o::rest) e w Q:=fun a ha=>by
 refine wpList_step fun K hK=> ?_
 rw [if_pos (hw.wanted ha)]
 unfold Oper.wp
 rw [hr a ha,Oper.upon_value,hd]
 exact hK _ _ (h _ (ha.put d v hdn))
def Rd (P:Program) (n:Nat) (e:Env) (w:World) (o:Oper) (v:Value):Prop:= ∀a,Ok n e a→(execOp a.eval o).run P w= .ok (.value v) w
theorem zl_runU {o:Oper} {w':World} (hw:Want ops e o.guard) (hd:o.dst=none) (hr: ∀a,Ok n e a→(execOp a.eval o).run P w= .ok .skip w')
  (h:ZL P n ops rest e w' Q):ZL P n ops (o::rest) e w Q:=fun a ha=>by
 refine wpList_step fun K hK=> ?_
 rw [if_pos (hw.wanted ha)]
 unfold Oper.wp
 rw [hr a ha,Oper.upon_skip,hd]
 exact hK _ _ (h _ ha)
def differs:Value→Bool→Bool
 | .bool b',b=>b' !=b
 |_,_=>true
theorem zl_no {dst:Option Tmp} {op:Op} {ty:TypeId} {pos:String} {aft:Array Edge} {j:Nat} {b:Bool} {t d:Tmp} {v:Value} (hd:dst=some d) (hdn:d<n) (h1:(ops[j]?).bind (·.dst)=some t) (h2:Env.get e t=some v) (h3:differs v b=true)
  (h:ZL P n ops rest ((d,undef)::e) w Q):ZL P n ops (⟨dst,op,ty,pos,aft,some (j,b)⟩::rest) e w Q:=fun a ha=>by
 have hw:Region.wanted (⟨dst,op,ty,pos,aft,some (j,b)⟩:Oper) (yielded ops a.tmps)=false:=by
  simp only [Region.wanted,yielded,h1,Option.bind_some,ha.at_ t _ h2]
  cases v<;>simp_all [differs]
 refine wpList_step fun K hK=> ?_
 rw [if_neg (by rw [hw];decide)]
 subst hd
 exact hK _ _ (h _ (ha.put d undef hdn))
variable {d : Tmp} {ty : TypeId} {pos : String} {aft : Array Edge} {g : Option (Nat × Bool)}
def pv (e:Env):Op→Option Value
 | .move x=>ev e x
 | .assign x=>ev e x
 | .nilCheck x=>match ev e x with|some (.pointer (some a))=>some (.pointer (some a))|_=>none
 | .pick c a b=>match ev e c with|some (.bool true)=>ev e a|some (.bool false)=>ev e b|_=>none
 | .extract t ix=>match ev e t with|some (.tuple vs)=>vs[ix]? |_=>none
 | .unOp .not _ x=>match ev e x with|some (.bool true)=>some (.bool false)|some (.bool false)=>some (.bool true)|_=>none
 |_=>none
theorem pv_run {op:Op} {v:Value} {o:Oper} (ho:o.op=op) (h:pv e op=some v): ∀a,Ok n e a→(execOp a.eval o).run P w= .ok (.value v) w:=by
 intro a ha
 unfold pv at h
 split at h
 ·simp [execOp,ho,ha.ev h]
 ·simp [execOp,ho,ha.ev h]
 ·split at h
  ·rename_i hx;cases h;simp [execOp,ho,ha.ev hx]
  ·cases h
 ·split at h
  ·rename_i hc;simp [execOp,ho,ha.ev hc,ha.ev h,asBool]
  ·rename_i hc;simp [execOp,ho,ha.ev hc,ha.ev h,asBool]
  ·cases h
 ·split at h
  ·rename_i hx;simp [execOp,ho,ha.ev hx,Instr.extract,h]
  ·cases h
 ·split at h
  ·rename_i hx;cases h;simp [execOp,ho,ha.ev hx,Op.unary]
  ·rename_i hx;cases h;simp [execOp,ho,ha.ev hx,Op.unary]
  ·cases h
 ·cases h
def wantB (ops:Array Oper) (e:Env):Option (Nat×Bool)→Option Bool
 |none=>some true
 |some (j,b)=>match (ops[j]?).bind (·.dst) with
  |some t=>match Env.get e t with
   |some (.bool true)=>some b
   |some (.bool false)=>some (!b)
   |some (.tuple _)=>some false
   |_=>none
  |none=>none
theorem wantB_yes {g:Option (Nat×Bool)} (h:wantB ops e g=some true):Want ops e g:=by
 intro j b hg
 subst hg
 simp only [wantB] at h
 split at h
 ·rename_i t ht
  split at h
  ·rename_i hx;cases h;exact ⟨t,ht,hx⟩
  ·rename_i hx;simp at h;subst h;exact ⟨t,ht,hx⟩
  ·cases h
  ·cases h
 ·cases h
def stepP (n:Nat) (ops:Array Oper) (e:Env) (o:Oper):Option (Tmp×Value):=
 match o.dst with
 |some d=>match Nat.blt d n with
  |true=>match wantB ops e o.guard with
   |some true=>match pv e o.op with|some v=>some (d,v)|none=>none
   |some false=>some (d,undef)
   |none=>none
  |false=>none
 |none=>none
theorem zl_pure {o:Oper} {d:Tmp} {v:Value} (hs:stepP n ops e o=some (d,v)) (h:ZL P n ops rest ((d,v)::e) w Q):ZL P n ops (o::rest) e w Q:=by
 unfold stepP at hs
 split at hs
 ·rename_i d' hd
  split at hs
  ·rename_i hlt
   have hdn:d'<n:=by simpa [Nat.blt_eq] using hlt
   split at hs
   ·rename_i hw
    split at hs
    ·rename_i v' hv
     cases hs
     exact zl_run (wantB_yes hw) hd hdn (pv_run rfl hv) h
    ·cases hs
   ·rename_i hw
    cases hs
    cases hg:o.guard with
    |none=>rw [hg] at hw;simp [wantB] at hw
    |some jb=>
     obtain ⟨j,b⟩:=jb
     rw [hg] at hw
     simp only [wantB] at hw
     split at hw
     ·rename_i t ht
      have key: ∀u,Env.get e t=some u→differs u b=true→ZL P n ops (o::rest) e w Q:=by
       intro u hu hdf
       obtain ⟨od,oo,ot,op',oa,og⟩:=o
       cases hd;cases hg
       exact zl_no rfl hdn ht hu hdf h
      split at hw
      ·rename_i hx;cases hw;exact key _ hx rfl
      ·rename_i hx;simp at hw;subst hw;exact key _ hx rfl
      ·rename_i hx;exact key _ hx rfl
      ·cases hw
     ·cases hw
   ·cases hs
  ·cases hs
 ·cases hs
end
open Go
structure Chg (w w':World) (S:Nat→Prop):Prop where
 os:w'.os=w.os
 tape:w'.tape=w.tape
 output:w'.output=w.output
 size:w.heap.size≤w'.heap.size
 same: ∀k,k<w.heap.size→ ¬S k→w'.heap[k]? =w.heap[k]?
abbrev No:Nat→Prop:=fun _=>False
theorem Chg.refl (w:World) (S:Nat→Prop):Chg w w S:=⟨rfl,rfl,rfl,Nat.le_refl _,fun _ _ _=>rfl⟩
theorem Chg.mono {w w':World} {S S':Nat→Prop} (h:Chg w w' S) (hs: ∀k,k<w.heap.size→S k→S' k):Chg w w' S':=⟨h.os,h.tape,h.output,h.size,fun k hk hn=>h.same k hk (fun hS=>hn (hs k hk hS))⟩
theorem Chg.trans {a b c:World} {S S':Nat→Prop} (h:Chg a b S) (k:Chg b c S') (hs: ∀i,i<a.heap.size→S' i→S i):Chg a c S:=
 ⟨k.os.trans h.os,k.tape.trans h.tape,k.output.trans h.output,Nat.le_trans h.size k.size,fun i hi hn=>(k.same i (Nat.lt_of_lt_of_le hi h.size) (fun h'=>hn (hs i hi h'))).trans (h.same i hi hn)⟩
theorem Chg.no {a b c:World} {S:Nat→Prop} (h:Chg a b S) (k:Chg b c No):Chg a c S:=h.trans k (fun _ _ h=>h.elim)
theorem Chg.below {w w':World} (h:Chg w w' No):RowKit.Below w.heap.size w w':=⟨h.os,h.tape,h.output,h.size,fun k hk=>h.same k hk id⟩
theorem Chg.of_below {w w':World} (h:RowKit.Below w.heap.size w w'):Chg w w' No:=⟨h.os,h.tape,h.output,h.size,fun k hk _=>h.block k hk⟩
def Blk (w:World) (b:Nat) (t:TypeId) (cs:List Value):Prop:=w.heap[b]? =some (.cells cs.toArray t (0,0))
section
variable {w w' : World} {b : Nat} {t : TypeId} {cs : List Value} {S : Nat → Prop}
theorem Blk.lt (h:Blk w b t cs):b<w.heap.size:=(Array.getElem?_eq_some_iff.1 h).1
theorem Blk.chg (h:Blk w b t cs) (hc:Chg w w' S) (hn: ¬S b):Blk w' b t cs:=(hc.same b h.lt hn).trans h
theorem Blk.no (h:Blk w b t cs) (hc:Chg w w' No):Blk w' b t cs:=h.chg hc id
theorem Blk.cell (h:Blk w b t cs) (o:Nat):w.cell? ⟨b,o,none⟩=cs[o]? :=by simp [World.cell?,show w.heap[b]? =_ from h]
theorem Blk.inj {t':TypeId} {cs':List Value} (h:Blk w b t cs) (h':Blk w b t' cs'):t=t'∧cs=cs':=by
 have:=h.symm.trans h';simp at this;exact ⟨this.2,this.1⟩
theorem Blk.ne {b':Nat} {t':TypeId} {cs':List Value} (h:Blk w b t cs) (h':Blk w b' t' cs') (ht:t≠t'):b≠b':=fun e=>by subst e;exact ht (h.inj h').1
structure New (w w':World) (b:Nat) (t:TypeId) (cs:List Value):Prop where
 at_:b=w.heap.size
 blk:Blk w' b t cs
 chg:Chg w w' No
 size:w'.heap.size=w.heap.size+1
theorem New.mk' (w:World) (t:TypeId) (cs:List Value):New w {w with heap:=w.heap.push (.cells cs.toArray t)} w.heap.size t cs:=
 ⟨rfl,by simp [Blk],⟨rfl,rfl,rfl,by simp,fun k hk _=>by simp [Array.getElem?_push,Nat.ne_of_lt hk]⟩,by simp⟩
structure Upd (w w':World) (b:Nat) (t:TypeId) (cs:List Value):Prop where
 blk:Blk w' b t cs
 chg:Chg w w' (· =b)
 size:w'.heap.size=w.heap.size
 old: ∃cs0,Blk w b t cs0
theorem Upd.setRow {cs':List Value} (h:Blk w b t cs):Upd w (w.setRow b cs'.toArray) b t cs':=
 ⟨setRow_heap w b _ _ t _ h,⟨rfl,rfl,rfl,by simp [World.setRow],fun k _ hk=>setRow_other w b k _ hk⟩,by simp [World.setRow],_,h⟩
end
section
variable (P : Program)
class Und (t:TypeId) (u:outParam TypeDesc):Prop where
 eq:P.underlying t=some u
class Inf (t:TypeId) (size bytes:outParam Nat) (z:outParam Value):Prop where
 ex: ∃i,P.info? t=some i∧i.size=size∧i.bytes=bytes∧i.zero=some z
class IsA (t:TypeId) (b:outParam Bool):Prop where
 run: ∀w,(isAgg t).run P w= .ok b w
class FA (s f:Nat) (off:outParam Nat):Prop where
 run: ∀(w:World) (b o:Nat),(Instr.fieldAt s (.pointer (some ⟨b,o,none⟩)) f).run P w= .ok (.pointer (some ⟨b,o+off,none⟩)) w
class IsFn (f:FuncId):Prop where
 ex: ∃fn,P.funcs[f]? =some fn∧(fn.name== "runtime.NumGoroutine")=false∧fn.body.isNone=false
end
section
variable {P : Program}
theorem Inf.of {t:TypeId} {size bytes:Nat} {z:Value} (h:(P.info? t).map (fun i=>(i.zero,i.size,i.bytes))=some (some z,size,bytes)):Inf P t size bytes z:=by
 cases hi:P.info? t with
 |none=>simp [hi] at h
 |some i=>simp [hi] at h;exact ⟨⟨i,hi,h.2.1,h.2.2,h.1⟩⟩
theorem Inf.size {t:TypeId} {s b:Nat} {z:Value} (h:Inf P t s b z) (w:World):(sizeOf t).run P w= .ok s w:=by
 obtain ⟨⟨i,h1,h2,h3,h4⟩⟩:=h
 simp [sizeOf,typeInfo,h1,h2]
theorem Inf.zero {t:TypeId} {s b:Nat} {z:Value} (h:Inf P t s b z) (w:World):(zeroValue t).run P w= .ok z w:=by
 obtain ⟨⟨i,h1,h2,h3,h4⟩⟩:=h
 simp [zeroValue,typeInfo,h1,h4]
def notAgg:TypeDesc→Bool
 | .struct _| .array _ _=>false
 |_=>true
theorem IsA.no {t:TypeId} {d:TypeDesc} (h:P.underlying t=some d) (hd:notAgg d=true):IsA P t false:=⟨fun w=>by
 simp only [isAgg,Sem.run_bind,run_underlying h,Result.andThen_ok]
 cases d<;>simp_all [notAgg]⟩
theorem IsA.yes {t:TypeId} {fs:Array Field} (h:P.underlying t=some (.struct fs)):IsA P t true:=⟨fun w=>by
 simp only [isAgg,Sem.run_bind,run_underlying h,Result.andThen_ok]
 simp⟩
end
section
variable {P : Program} {n : Nat} {e : Env} {w : World} {Q : Exit → Act → World → Prop} {ops : Array Oper} {rest : List Oper}
variable {d : Tmp} {ty : TypeId} {pos : String} {aft : Array Edge} {g : Option (Nat × Bool)}
theorem run_loadAt1 {t:TypeId} {ad:Addr} {v:Value} [hA:IsA P t false] (hc:w.cell? ad=some v):(Instr.loadAt t (.pointer (some ad))).run P w= .ok v w:=by
 simp only [Instr.loadAt,Instr.sureAddr,loadVar,Sem.run_bind,Sem.run_pure,Result.andThen_ok,hA.run w]
 simp [hc]
theorem run_loadAtA {t:TypeId} {ad:Addr} {cs:List Value} {sz b:Nat} {z:Value} [hA:IsA P t true] [hz:Inf P t sz b z] (hl:cs.length=sz) (hc: ∀j u,cs[j]? =some u→w.cell? (ad.add j)=some u):
  (Instr.loadAt t (.pointer (some ad))).run P w= .ok (.agg cs.toArray) w:=by
 simp only [Instr.loadAt,Instr.sureAddr,loadVar,Sem.run_bind,Sem.run_pure,Result.andThen_ok,hA.run w,hz.size w,if_true,←hl,run_loadCells_list (P:=P) w ad cs hc]
theorem r_fa {s f off b o:Nat} {x:Operand} [hF:FA P s f off] (hx:ev e x=some (.pointer (some ⟨b,o,none⟩))):Rd P n e w ⟨some d,.fieldAddr s x f,ty,pos,aft,g⟩ (.pointer (some ⟨b,o+off,none⟩)):=
 (fun a ha=>by simp [execOp,ha.ev hx,hF.run w b o])
theorem z_fa {s f off b o:Nat} {x:Operand} [hF:FA P s f off] (hw:Want ops e g) (hdn:d<n) (hx:ev e x=some (.pointer (some ⟨b,o,none⟩))) (h:ZL P n ops rest ((d,.pointer (some ⟨b,o+off,none⟩))::e) w Q):
  ZL P n ops (⟨some d,.fieldAddr s x f,ty,pos,aft,g⟩::rest) e w Q:=
 zl_run hw rfl hdn (r_fa hx) h
theorem r_load1 {t:TypeId} {x:Operand} {ad:Addr} {v:Value} [hA:IsA P t false] (hx:ev e x=some (.pointer (some ad))) (hc:w.cell? ad=some v):Rd P n e w ⟨some d,.load t x,ty,pos,aft,g⟩ v:=
 (fun a ha=>by simp [execOp,ha.ev hx,run_loadAt1 hc])
theorem z_load1 {t:TypeId} {x:Operand} {ad:Addr} {v:Value} [hA:IsA P t false] (hw:Want ops e g) (hdn:d<n) (hx:ev e x=some (.pointer (some ad))) (hc:w.cell? ad=some v) (h:ZL P n ops rest ((d,v)::e) w Q):
  ZL P n ops (⟨some d,.load t x,ty,pos,aft,g⟩::rest) e w Q:=
 zl_run hw rfl hdn (r_load1 hx hc) h
theorem r_loadB {t:TypeId} {x:Operand} {b o:Nat} {bt:TypeId} {cs:List Value} {v:Value} [hA:IsA P t false] (hx:ev e x=some (.pointer (some ⟨b,o,none⟩))) (hb:Blk w b bt cs) (hv:cs[o]? =some v):Rd P n e w ⟨some d,.load t x,ty,pos,aft,g⟩ v:=
 r_load1 hx ((hb.cell o).trans hv)
theorem z_loadB {t:TypeId} {x:Operand} {b o:Nat} {bt:TypeId} {cs:List Value} {v:Value} [hA:IsA P t false] (hw:Want ops e g) (hdn:d<n) (hx:ev e x=some (.pointer (some ⟨b,o,none⟩))) (hb:Blk w b bt cs) (hv:cs[o]? =some v)
  (h:ZL P n ops rest ((d,v)::e) w Q):ZL P n ops (⟨some d,.load t x,ty,pos,aft,g⟩::rest) e w Q:=
 z_load1 hw hdn hx ((hb.cell o).trans hv) h
theorem r_loadA {t:TypeId} {x:Operand} {ad:Addr} {cs:List Value} {sz k:Nat} {z:Value} [hA:IsA P t true] [hz:Inf P t sz k z] (hl:cs.length=sz) (hx:ev e x=some (.pointer (some ad)))
  (hc: ∀j u,cs[j]? =some u→w.cell? (ad.add j)=some u):Rd P n e w ⟨some d,.load t x,ty,pos,aft,g⟩ (.agg cs.toArray):=
 (fun a ha=>by simp [execOp,ha.ev hx,run_loadAtA hl hc])
theorem z_loadA {t:TypeId} {x:Operand} {ad:Addr} {cs:List Value} {sz k:Nat} {z:Value} [hA:IsA P t true] [hz:Inf P t sz k z] (hl:cs.length=sz) (hw:Want ops e g) (hdn:d<n) (hx:ev e x=some (.pointer (some ad)))
  (hc: ∀j u,cs[j]? =some u→w.cell? (ad.add j)=some u) (h:ZL P n ops rest ((d,.agg cs.toArray)::e) w Q):
  ZL P n ops (⟨some d,.load t x,ty,pos,aft,g⟩::rest) e w Q:=
 zl_run hw rfl hdn (r_loadA hl hx hc) h
theorem addr_add (b o j:Nat):(⟨b,o,none⟩:Addr).add j=⟨b,o+j,none⟩:=by unfold Addr.add;split<;>simp_all
theorem r_loadAB {t:TypeId} {x:Operand} {b:Nat} {bt:TypeId} {cs:List Value} {sz k:Nat} {z:Value} [hA:IsA P t true] [hz:Inf P t sz k z] (hx:ev e x=some (.pointer (some ⟨b,0,none⟩))) (hb:Blk w b bt cs) (hl:cs.length=sz):Rd P n e w ⟨some d,.load t x,ty,pos,aft,g⟩ (.agg cs.toArray):=
 r_loadA hl hx (fun j u hj=>by rw [addr_add,Nat.zero_add,hb.cell j];exact hj)
theorem z_loadAB {t:TypeId} {x:Operand} {b:Nat} {bt:TypeId} {cs:List Value} {sz k:Nat} {z:Value} [hA:IsA P t true] [hz:Inf P t sz k z] (hw:Want ops e g) (hdn:d<n) (hx:ev e x=some (.pointer (some ⟨b,0,none⟩)))
  (hb:Blk w b bt cs) (hl:cs.length=sz) (h:ZL P n ops rest ((d,.agg cs.toArray)::e) w Q):ZL P n ops (⟨some d,.load t x,ty,pos,aft,g⟩::rest) e w Q:=
 z_loadA hl hw hdn hx (fun j u hj=>by rw [addr_add,Nat.zero_add,hb.cell j];exact hj) h
theorem r_len {x:Operand} {A:Option Addr} {m c:Nat} {t el:TypeId} [hu:Und P t (.slice el)] (hx:ev e x=some (.slice A m c)):Rd P n e w ⟨some d,.call {callee:= .builtin .len,args:= #[x],argTypes:= #[t]},ty,pos,aft,g⟩ (.int .i64 m):=
 (fun a ha=>by simp [execOp,resolve,invoke,builtin,ha.ev hx,Builtin.len_,run_underlying hu.eq,goInt])
theorem z_len {x:Operand} {A:Option Addr} {m c:Nat} {t el:TypeId} [hu:Und P t (.slice el)] (hw:Want ops e g) (hdn:d<n) (hx:ev e x=some (.slice A m c)) (h:ZL P n ops rest ((d,.int .i64 m)::e) w Q):
  ZL P n ops (⟨some d,.call {callee:= .builtin .len,args:= #[x],argTypes:= #[t]},ty,pos,aft,g⟩::rest) e w Q:=
 zl_run hw rfl hdn (r_len hx) h
theorem r_lenS {x:Operand} {s:ByteArray} {t:TypeId} [hu:Und P t .string] (hx:ev e x=some (.string s)):Rd P n e w ⟨some d,.call {callee:= .builtin .len,args:= #[x],argTypes:= #[t]},ty,pos,aft,g⟩ (.int .i64 s.size):=
 (fun a ha=>by simp [execOp,resolve,invoke,builtin,ha.ev hx,Builtin.len_,run_underlying hu.eq,goInt])
theorem z_lenS {x:Operand} {s:ByteArray} {t:TypeId} [hu:Und P t .string] (hw:Want ops e g) (hdn:d<n) (hx:ev e x=some (.string s)) (h:ZL P n ops rest ((d,.int .i64 s.size)::e) w Q):
  ZL P n ops (⟨some d,.call {callee:= .builtin .len,args:= #[x],argTypes:= #[t]},ty,pos,aft,g⟩::rest) e w Q:=
 zl_run hw rfl hdn (r_lenS hx) h
theorem r_ia {x y:Operand} {b o m c s k:Nat} {ik:IntKind} {i:Int} {t el:TypeId} {z:Value} [hu:Und P t (.slice el)] [hz:Inf P el s k z] (hx:ev e x=some (.slice (some ⟨b,o,none⟩) m c)) (hy:ev e y=some (.int ik i))
  (h0:0≤i) (h1:i<m):Rd P n e w ⟨some d,.indexAddr t x y,ty,pos,aft,g⟩ (.pointer (some ⟨b,o+i.toNat*s,none⟩)):=
 (fun a ha=>by
  simp only [execOp,ha.ev hx,ha.ev hy,Instr.indexAt,asIntOf,Sem.run_bind,Sem.run_pure,Result.andThen_ok,run_underlying hu.eq]
  simp [h0,h1,hz.size w,addr_add])
theorem z_ia {x y:Operand} {b o m c s k:Nat} {ik:IntKind} {i:Int} {t el:TypeId} {z:Value} [hu:Und P t (.slice el)] [hz:Inf P el s k z] (hw:Want ops e g) (hdn:d<n) (hx:ev e x=some (.slice (some ⟨b,o,none⟩) m c)) (hy:ev e y=some (.int ik i))
  (h0:0≤i) (h1:i<m) (h:ZL P n ops rest ((d,.pointer (some ⟨b,o+i.toNat*s,none⟩))::e) w Q):
  ZL P n ops (⟨some d,.indexAddr t x y,ty,pos,aft,g⟩::rest) e w Q:=
 zl_run hw rfl hdn (r_ia hx hy h0 h1) h
theorem z_alloc {t:TypeId} {s k:Nat} {z:Value} [hz:Inf P t s k z] (hw:Want ops e g) (hdn:d<n) (h: ∀w' b,New w w' b t z.cells.toList→ZL P n ops rest ((d,.pointer (some ⟨b,0,none⟩))::e) w' Q):
  ZL P n ops (⟨some d,.alloc t,ty,pos,aft,g⟩::rest) e w Q:=
 zl_run (w':={w with heap:=w.heap.push (.cells z.cells.toList.toArray t)}) hw rfl hdn (fun a ha=>by simp [execOp,Instr.alloc,hz.zero w,newVar,newRow]) (h _ _ (New.mk' w t _))
theorem z_box {t:TypeId} {x:Operand} {v:Value} (hw:Want ops e g) (hdn:d<n) (hx:ev e x=some v) (h: ∀w' b,New w w' b t v.cells.toList→ZL P n ops rest ((d,.pointer (some ⟨b,0,none⟩))::e) w' Q):
  ZL P n ops (⟨some d,.box t x,ty,pos,aft,g⟩::rest) e w Q:=
 zl_run (w':={w with heap:=w.heap.push (.cells v.cells.toList.toArray t)}) hw rfl hdn (fun a ha=>by simp [execOp,ha.ev hx,Instr.box,newVar,newRow]) (h _ _ (New.mk' w t _))
def lay (cs:List Value) (o:Nat) (vs:List Value):List Value:=cs.take o++vs++cs.drop (o+vs.length)
theorem run_storeAt {t:TypeId} {v:Value} {b o:Nat} {bt:TypeId} {cs:List Value} {s k:Nat} {z:Value} [hz:Inf P t s k z] (hs:v.cells.size=s) (hb:Blk w b bt cs) (hfit:o+s≤cs.length) (h1: ∀u∈v.cells.toList,u.oneCell'=true):
  (Instr.storeAt t (.pointer (some ⟨b,o,none⟩)) v).run P w= .ok () (w.setRow b (lay cs o v.cells.toList).toArray):=by
 have hst:=run_storeCells_at P b o bt v.cells.toList 0 cs.toArray w hb (by simp;omega) h1
 simp only [Nat.add_zero] at hst
 simp only [Instr.storeAt,Instr.sureAddr,storeVar,Sem.run_bind,Sem.run_pure,Result.andThen_ok,hz.size w]
 rw [if_neg (by simp [hs])]
 simp only [hst,lay]
theorem z_store {t:TypeId} {x y:Operand} {v:Value} {b o:Nat} {bt:TypeId} {cs:List Value} {s k:Nat} {z:Value} [hz:Inf P t s k z] (hw:Want ops e g) (hx:ev e x=some (.pointer (some ⟨b,o,none⟩))) (hy:ev e y=some v) (hs:v.cells.size=s) (hb:Blk w b bt cs)
  (hfit:o+s≤cs.length) (h1: ∀u∈v.cells.toList,u.oneCell'=true) (h: ∀w',Upd w w' b bt (lay cs o v.cells.toList)→ZL P n ops rest e w' Q):
  ZL P n ops (⟨none,.store t x y,ty,pos,aft,g⟩::rest) e w Q:=
 zl_runU hw rfl (fun a ha=>by simp [execOp,ha.ev hx,ha.ev hy,run_storeAt hs hb hfit h1]) (h _ (Upd.setRow hb))
end
open Go
section
variable {P : Program} {n : Nat} {e : Env} {w : World} {Q : Exit → Act → World → Prop} {ops : Array Oper} {rest : List Oper}
variable {d : Tmp} {ty : TypeId} {pos : String} {aft : Array Edge} {g : Option (Nat × Bool)} {x y : Operand} {xt yt : TypeId}
theorem run_int_eqGuard (op:BinOp) (t:TypeId) (x y:Operand) (k k':IntKind) (a b:Int):(eqGuard op t x y (.int k a) (.int k' b)).run P w= .ok () w:=by
 unfold eqGuard;cases op<;>rfl
theorem r_arith {op:BinOp} {k:IntKind} {a b c:Int} (hop:(op= .add∧c=k.wrap (a+b))∨(op= .sub∧c=k.wrap (a - b))∨(op= .mul∧c=k.wrap (a*b))) (hx:ev e x=some (.int k a)) (hy:ev e y=some (.int k b))
  :Rd P n e w ⟨some d,.binOp op xt x y yt,ty,pos,aft,g⟩ (.int k c):=
 (fun A hA=>by
  simp only [execOp,hA.ev hx,hA.ev hy,Sem.run_bind,run_int_eqGuard,Result.andThen_ok]
  rcases hop with ⟨rfl,rfl⟩|⟨rfl,rfl⟩|⟨rfl,rfl⟩<;>simp [binOp,Op.intArith])
theorem z_arith {op:BinOp} {k:IntKind} {a b c:Int} (hop:(op= .add∧c=k.wrap (a+b))∨(op= .sub∧c=k.wrap (a - b))∨(op= .mul∧c=k.wrap (a*b))) (hw:Want ops e g) (hdn:d<n) (hx:ev e x=some (.int k a)) (hy:ev e y=some (.int k b))
  (h:ZL P n ops rest ((d,.int k c)::e) w Q):
  ZL P n ops (⟨some d,.binOp op xt x y yt,ty,pos,aft,g⟩::rest) e w Q:=
 zl_run hw rfl hdn (r_arith hop hx hy) h
theorem wrap_i64 {x:Int} (h0: -9223372036854775808≤x) (h1:x≤9223372036854775807):IntKind.i64.wrap x=x:=by
 simp only [IntKind.wrap,IntKind.bits,IntKind.signed];simp;omega
theorem wrap_u8 {x:Int} (h0:0≤x) (h1:x≤255):IntKind.u8.wrap x=x:=by
 simp only [IntKind.wrap,IntKind.bits,IntKind.signed];simp;omega
theorem wrap_i32 {x:Int} (h0: -2147483648≤x) (h1:x≤2147483647):IntKind.i32.wrap x=x:=by
 simp only [IntKind.wrap,IntKind.bits,IntKind.signed];simp;omega
theorem r_add {a b:Int} (hx:ev e x=some (.int .i64 a)) (hy:ev e y=some (.int .i64 b)) (h0: -9223372036854775808≤a+b) (h1:a+b≤9223372036854775807):Rd P n e w ⟨some d,.binOp .add xt x y yt,ty,pos,aft,g⟩ (.int .i64 (a+b)):=
 r_arith (.inl ⟨rfl,(wrap_i64 h0 h1).symm⟩) hx hy
theorem r_sub {a b:Int} (hx:ev e x=some (.int .i64 a)) (hy:ev e y=some (.int .i64 b)) (h0: -9223372036854775808≤a - b) (h1:a - b≤9223372036854775807):Rd P n e w ⟨some d,.binOp .sub xt x y yt,ty,pos,aft,g⟩ (.int .i64 (a - b)):=
 r_arith (.inr (.inl ⟨rfl,(wrap_i64 h0 h1).symm⟩)) hx hy
theorem z_add {a b:Int} (hw:Want ops e g) (hdn:d<n) (hx:ev e x=some (.int .i64 a)) (hy:ev e y=some (.int .i64 b)) (h0: -9223372036854775808≤a+b) (h1:a+b≤9223372036854775807)
  (h:ZL P n ops rest ((d,.int .i64 (a+b))::e) w Q):ZL P n ops (⟨some d,.binOp .add xt x y yt,ty,pos,aft,g⟩::rest) e w Q:=
 zl_run hw rfl hdn (r_add hx hy h0 h1) h
theorem z_sub {a b:Int} (hw:Want ops e g) (hdn:d<n) (hx:ev e x=some (.int .i64 a)) (hy:ev e y=some (.int .i64 b)) (h0: -9223372036854775808≤a - b) (h1:a - b≤9223372036854775807)
  (h:ZL P n ops rest ((d,.int .i64 (a - b))::e) w Q):ZL P n ops (⟨some d,.binOp .sub xt x y yt,ty,pos,aft,g⟩::rest) e w Q:=
 zl_run hw rfl hdn (r_sub hx hy h0 h1) h
theorem z_mul {a b:Int} (hw:Want ops e g) (hdn:d<n) (hx:ev e x=some (.int .i64 a)) (hy:ev e y=some (.int .i64 b)) (h0: -9223372036854775808≤a*b) (h1:a*b≤9223372036854775807)
  (h:ZL P n ops rest ((d,.int .i64 (a*b))::e) w Q):ZL P n ops (⟨some d,.binOp .mul xt x y yt,ty,pos,aft,g⟩::rest) e w Q:=
 zl_run hw rfl hdn (r_arith (.inr (.inr ⟨rfl,(wrap_i64 h0 h1).symm⟩)) hx hy) h
theorem r_rem {k:IntKind} {a b:Int} (hx:ev e x=some (.int k a)) (hy:ev e y=some (.int k b)) (hb:b≠0)
  :Rd P n e w ⟨some d,.binOp .rem xt x y yt,ty,pos,aft,g⟩ (.int k (a.tmod b)):=
 (fun A hA=>by simp [execOp,hA.ev hx,hA.ev hy,run_int_eqGuard,binOp,Op.intDiv,hb])
theorem z_rem {k:IntKind} {a b:Int} (hw:Want ops e g) (hdn:d<n) (hx:ev e x=some (.int k a)) (hy:ev e y=some (.int k b)) (hb:b≠0)
  (h:ZL P n ops rest ((d,.int k (a.tmod b))::e) w Q):
  ZL P n ops (⟨some d,.binOp .rem xt x y yt,ty,pos,aft,g⟩::rest) e w Q:=
 zl_run hw rfl hdn (r_rem hx hy hb) h
theorem r_quo {k:IntKind} {a b:Int} (hx:ev e x=some (.int k a)) (hy:ev e y=some (.int k b)) (hb:b≠0)
  :Rd P n e w ⟨some d,.binOp .quo xt x y yt,ty,pos,aft,g⟩ (.int k (k.wrap (a.tdiv b))):=
 (fun A hA=>by simp [execOp,hA.ev hx,hA.ev hy,run_int_eqGuard,binOp,Op.intDiv,hb])
theorem z_quo {k:IntKind} {a b:Int} (hw:Want ops e g) (hdn:d<n) (hx:ev e x=some (.int k a)) (hy:ev e y=some (.int k b)) (hb:b≠0)
  (h:ZL P n ops rest ((d,.int k (k.wrap (a.tdiv b)))::e) w Q):
  ZL P n ops (⟨some d,.binOp .quo xt x y yt,ty,pos,aft,g⟩::rest) e w Q:=
 zl_run hw rfl hdn (r_quo hx hy hb) h
def cmpP:BinOp→Int→Int→Option Prop
 | .eql,a,b=>some (a=b)
 | .neq,a,b=>some (a≠b)
 | .lss,a,b=>some (a<b)
 | .leq,a,b=>some (a≤b)
 | .gtr,a,b=>some (a>b)
 | .geq,a,b=>some (a≥b)
 |_,_,_=>none
theorem r_cmpB {op:BinOp} {k:IntKind} {a b:Int} {p:Prop} {r:Bool} (hx:ev e x=some (.int k a)) (hy:ev e y=some (.int k b)) (hop:cmpP op a b=some p) (hr:(r=true)↔p)
  :Rd P n e w ⟨some d,.binOp op xt x y yt,ty,pos,aft,g⟩ (.bool r):=
 (fun A hA=>by
  simp only [execOp,hA.ev hx,hA.ev hy,Sem.run_bind,run_int_eqGuard,Result.andThen_ok]
  cases op<;>simp only [cmpP] at hop<;>(try cases hop)<;>simp [binOp,Op.intCmp]<;>
   (first|(cases r<;>simp_all;done)|(rw [Bool.eq_iff_iff,hr];simp)))
theorem z_cmpB {op:BinOp} {k:IntKind} {a b:Int} {p:Prop} {r:Bool} (hw:Want ops e g) (hdn:d<n) (hx:ev e x=some (.int k a)) (hy:ev e y=some (.int k b)) (hop:cmpP op a b=some p) (hr:(r=true)↔p)
  (h:ZL P n ops rest ((d,.bool r)::e) w Q):
  ZL P n ops (⟨some d,.binOp op xt x y yt,ty,pos,aft,g⟩::rest) e w Q:=
 zl_run hw rfl hdn (r_cmpB hx hy hop hr) h
theorem z_cmp {op:BinOp} {k:IntKind} {a b:Int} {p:Prop} (hw:Want ops e g) (hdn:d<n) (hx:ev e x=some (.int k a)) (hy:ev e y=some (.int k b)) (hop:cmpP op a b=some p)
  (ht:p→ZL P n ops rest ((d,.bool true)::e) w Q) (hf: ¬p→ZL P n ops rest ((d,.bool false)::e) w Q):ZL P n ops (⟨some d,.binOp op xt x y yt,ty,pos,aft,g⟩::rest) e w Q:=by
 by_cases hp:p
 ·exact z_cmpB hw hdn hx hy hop (r:=true) (by simp [hp]) (ht hp)
 ·exact z_cmpB hw hdn hx hy hop (r:=false) (by simp [hp]) (hf hp)
theorem run_str_eqGuard (op:BinOp) (t:TypeId) (x y:Operand) (a b:ByteArray):(eqGuard op t x y (.string a) (.string b)).run P w= .ok () w:=by
 unfold eqGuard;cases op<;>rfl
theorem ba_eq (a b:ByteArray):(a.toList==b.toList)=decide (a=b):=by
 rw [Bool.eq_iff_iff]
 simp only [beq_iff_eq,decide_eq_true_eq]
 exact ⟨fun h=>by
  have:=congrArg List.toByteArray h
  first|simpa using this|(apply ByteArray.ext;simpa [ByteArray.toList_eq] using h),fun h=>by rw [h]⟩
theorem z_eqS {a b:ByteArray} (hw:Want ops e g) (hdn:d<n) (hx:ev e x=some (.string a)) (hy:ev e y=some (.string b))
  (ht:a=b→ZL P n ops rest ((d,.bool true)::e) w Q) (hf:a≠b→ZL P n ops rest ((d,.bool false)::e) w Q):ZL P n ops (⟨some d,.binOp .eql xt x y yt,ty,pos,aft,g⟩::rest) e w Q:=by
 by_cases hp:a=b
 ·exact zl_run hw rfl hdn (fun A hA=>by simp [execOp,hA.ev hx,hA.ev hy,run_str_eqGuard,binOp,Op.stringOp,hp]) (ht hp)
 ·exact zl_run hw rfl hdn (fun A hA=>by
   have h2:(a.toList==b.toList)=false:=by rw [ba_eq];simp [hp]
   simp [execOp,hA.ev hx,hA.ev hy,run_str_eqGuard,binOp,Op.stringOp,h2]) (hf hp)
theorem z_neS {a b:ByteArray} (hw:Want ops e g) (hdn:d<n) (hx:ev e x=some (.string a)) (hy:ev e y=some (.string b))
  (ht:a≠b→ZL P n ops rest ((d,.bool true)::e) w Q) (hf:a=b→ZL P n ops rest ((d,.bool false)::e) w Q):ZL P n ops (⟨some d,.binOp .neq xt x y yt,ty,pos,aft,g⟩::rest) e w Q:=by
 by_cases hp:a=b
 ·exact zl_run hw rfl hdn (fun A hA=>by simp [execOp,hA.ev hx,hA.ev hy,run_str_eqGuard,binOp,Op.stringOp,hp]) (hf hp)
 ·exact zl_run hw rfl hdn (fun A hA=>by
   have h2:(a.toList==b.toList)=false:=by rw [ba_eq];simp [hp]
   simp [execOp,hA.ev hx,hA.ev hy,run_str_eqGuard,binOp,Op.stringOp,h2]) (ht hp)
theorem r_eqSB {a b:ByteArray} (hx:ev e x=some (.string a)) (hy:ev e y=some (.string b))
  :Rd P n e w ⟨some d,.binOp .eql xt x y yt,ty,pos,aft,g⟩ (.bool (decide (a=b))):=
 (fun A hA=>by simp [execOp,hA.ev hx,hA.ev hy,run_str_eqGuard,binOp,Op.stringOp,ba_eq])
theorem r_cat {a b:ByteArray} (hx:ev e x=some (.string a)) (hy:ev e y=some (.string b)) (hsz:a.size+b.size≤9223372036854775807)
  :Rd P n e w ⟨some d,.binOp .add xt x y yt,ty,pos,aft,g⟩ (.string (a++b)):=
 (fun A hA=>by
  have h2: ¬(((a.size+b.size:Nat):Int)>IntKind.i64.max):=by simp [IntKind.max,IntKind.signed,IntKind.bits];omega
  simp only [execOp,hA.ev hx,hA.ev hy,Sem.run_bind,run_str_eqGuard,Result.andThen_ok,binOp,Op.stringOp]
  rw [if_neg h2];simp)
theorem r_idxS {s:ByteArray} {k:IntKind} {i:Int} {t:TypeId} [hu:Und P t .string] (hx:ev e x=some (.string s)) (hy:ev e y=some (.int k i)) (h0:0≤i) (h1:i.toNat<s.size)
  :Rd P n e w ⟨some d,.index t x y,ty,pos,aft,g⟩ (.int .u8 (s[i.toNat]'h1).toNat):=
 (fun A hA=>by
  simp only [execOp,hA.ev hx,hA.ev hy,Instr.index,asIntOf,Sem.run_bind,Sem.run_pure,Result.andThen_ok,run_underlying hu.eq]
  simp [h0,h1])
def evs (e:Env):List Operand→Option (List Value)
 | []=>some []
 |x::r=>match ev e x,evs e r with|some v,some vs=>some (v::vs)|_,_=>none
theorem evs_map {A:Act} (hA:Ok n e A): ∀{l:List Operand} {vs:List Value},evs e l=some vs→l.map A.eval=vs
 | [],vs,h=>by simp [evs] at h;simp [h]
 |x::r,vs,h=>by
  simp only [evs] at h
  split at h
  ·rename_i v vs' h1 h2;cases h;simp [hA.ev h1,evs_map hA h2]
  ·cases h
theorem zl_call {dst:Option Tmp} {f:FuncId} {l:List Operand} {ats:Array TypeId} {vs:List Value} {R:Ending→World→Prop} [hf:IsFn P f] (hw:Want ops e g) (hd:dst=some d) (hdn:d<n) (hx:evs e l=some vs)
  (hc:Calls P f vs.toArray w R) (h: ∀x w',R x w'→ ∃v,x= .returned v∧ZL P n ops rest ((d,v)::e) w' Q):
  ZL P n ops (⟨dst,.call {callee:= .value (.func f),args:=l.toArray,argTypes:=ats},ty,pos,aft,g⟩::rest) e w Q:=fun A hA=>by
 subst hd
 obtain ⟨fn,h1,h2,h3⟩:=hf.ex
 refine wpList_step fun K hK=> ?_
 rw [if_pos (Want.wanted (o:=⟨some d,.call {callee:= .value (.func f),args:=l.toArray,argTypes:=ats},ty,pos,aft,g⟩) hw hA)]
 unfold Oper.wp
 have hm:l.map A.eval=vs:=evs_map hA hx
 have hr:(execOp A.eval (⟨some d,.call {callee:= .value (.func f),args:=l.toArray,argTypes:=ats},ty,pos,aft,g⟩:Oper)).run P w= .ok (.enter f vs.toArray) w:=by
  have h2': ¬fn.name= "runtime.NumGoroutine" :=by simpa using h2
  have h3': ¬fn.body=none:=fun h=>by simp [h] at h3
  simp [execOp,resolve,Act.eval,Deferred.ofValue,invoke,callFunc,h1,h2',h3',hm]
 rw [hr,Oper.upon_enter]
 refine hc.mono fun x w' hx=> ?_
 obtain ⟨v,rfl,hz⟩:=h x w' hx
 exact hK _ _ (hz _ (hA.put d v hdn))
def optI:Option Operand→Env→Int→Option Int
 |none,_,dflt=>some dflt
 |some x,e,_=>match ev e x with|some (.int _ i)=>some i|_=>none
theorem r_cutS {s:ByteArray} {lo hi:Option Operand} {l r:Int} {t:TypeId} [hu:Und P t .string] (hx:ev e x=some (.string s)) (hl:optI lo e 0=some l) (hh:optI hi e s.size=some r) (h0:0≤l) (h1:l≤r) (h2:r≤s.size)
  :Rd P n e w ⟨some d,.slice t x lo hi none,ty,pos,aft,g⟩ (.string (s.extract l.toNat r.toNat)):=
 (fun A hA=>by
  have gl: ∀y,lo=some y→ ∃k,A.eval y= .int k l:=by
   rintro y rfl;simp only [optI] at hl;split at hl
   ·rename_i k i hy;cases hl;exact ⟨k,hA.ev hy⟩
   ·cases hl
  have gh: ∀y,hi=some y→ ∃k,A.eval y= .int k r:=by
   rintro y rfl;simp only [optI] at hh;split at hh
   ·rename_i k i hy;cases hh;exact ⟨k,hA.ev hy⟩
   ·cases hh
  cases lo with
  |none=>
   simp only [optI,Option.some.injEq] at hl;subst hl
   cases hi with
   |none=>simp only [optI,Option.some.injEq] at hh;subst hh;simp [execOp,hA.ev hx,Instr.sliceAt,run_underlying hu.eq,Instr.slice,Instr.sliceBounds]
   |some y=>
    obtain ⟨k,hy⟩:=gh y rfl
    have hr0:0≤r:=h1
    simp [execOp,hA.ev hx,Instr.sliceAt,run_underlying hu.eq,Instr.slice,Instr.sliceBounds,Instr.sliceBound,asIntOf,hy,hr0,h2]
  |some z=>
   obtain ⟨kz,hz⟩:=gl z rfl
   cases hi with
   |none=>simp only [optI,Option.some.injEq] at hh;subst hh;simp [execOp,hA.ev hx,Instr.sliceAt,run_underlying hu.eq,Instr.slice,Instr.sliceBounds,Instr.sliceBound,asIntOf,hz,h0,h1]
   |some y=>
    obtain ⟨k,hy⟩:=gh y rfl
    have hr0:0≤r:=Int.le_trans h0 h1
    have hlr:l≤(r.toNat:Int):=by omega
    simp [execOp,hA.ev hx,Instr.sliceAt,run_underlying hu.eq,Instr.slice,Instr.sliceBounds,Instr.sliceBound,asIntOf,hy,hz,hr0,h2,h0,hlr];intro hbad;omega)
theorem r_cut {B:Option Addr} {m c s k:Nat} {z:Value} {lo hi:Option Operand} {l r:Int} {t el:TypeId} [hu:Und P t (.slice el)] [hz:Inf P el s k z] (hx:ev e x=some (.slice B m c)) (hl:optI lo e 0=some l) (hh:optI hi e m=some r)
  (h0:0≤l) (h1:l≤r) (h2:r≤c)
  :Rd P n e w ⟨some d,.slice t x lo hi none,ty,pos,aft,g⟩ (.slice (if c=l.toNat then B else B.map (·.add (l.toNat*s))) (r.toNat - l.toNat) (c - l.toNat)):=
 (fun A hA=>by
  have hsz:=hz.size w
  have gl: ∀y,lo=some y→ ∃k,A.eval y= .int k l:=by
   rintro y rfl;simp only [optI] at hl;split at hl
   ·rename_i k i hy;cases hl;exact ⟨k,hA.ev hy⟩
   ·cases hl
  have gh: ∀y,hi=some y→ ∃k,A.eval y= .int k r:=by
   rintro y rfl;simp only [optI] at hh;split at hh
   ·rename_i k i hy;cases hh;exact ⟨k,hA.ev hy⟩
   ·cases hh
  cases lo with
  |none=>
   simp only [optI,Option.some.injEq] at hl;subst hl
   cases hi with
   |none=>simp only [optI,Option.some.injEq] at hh;subst hh;simp [execOp,hA.ev hx,Instr.sliceAt,run_underlying hu.eq,Instr.slice,Instr.sliceBounds,hsz]
   |some y=>
    obtain ⟨k,hy⟩:=gh y rfl
    have hr0:0≤r:=h1
    simp [execOp,hA.ev hx,Instr.sliceAt,run_underlying hu.eq,Instr.slice,Instr.sliceBounds,Instr.sliceBound,asIntOf,hy,hr0,h2,hsz]
  |some z=>
   obtain ⟨kz,hz⟩:=gl z rfl
   cases hi with
   |none=>simp only [optI,Option.some.injEq] at hh;subst hh;simp [execOp,hA.ev hx,Instr.sliceAt,run_underlying hu.eq,Instr.slice,Instr.sliceBounds,Instr.sliceBound,asIntOf,hz,h0,h1,hsz]
   |some y=>
    obtain ⟨k,hy⟩:=gh y rfl
    have hr0:0≤r:=Int.le_trans h0 h1
    have hlr:l≤(r.toNat:Int):=by omega
    simp [execOp,hA.ev hx,Instr.sliceAt,run_underlying hu.eq,Instr.slice,Instr.sliceBounds,Instr.sliceBound,asIntOf,hy,hz,hr0,h2,h0,hlr,hsz];intro hbad;omega)
theorem r_build {t:TypeId} {parts:Array (Nat×Operand)} {pv:Array (Nat×Value)} {cells:Array Value} (hp: ∀A,Ok n e A→parts.map (fun (i,x)=>(i,A.eval x))=pv) (hb:P.built t pv.toList=some cells)
  :Rd P n e w ⟨some d,.build t parts,ty,pos,aft,g⟩ (.agg cells):=
 (fun A hA=>by
  have:=hp A hA
  simp only [execOp,Sem.run_bind]
  rw [this,run_build w t pv cells hb];simp)
theorem z_bs {t el:TypeId} {len s k:Nat} {z:Value} {parts:Array (Nat×Operand)} {pv:Array (Nat×Value)} {cells:List Value} [hu:Und P t (.slice el)] [hz:Inf P el s k z] (hp: ∀A,Ok n e A→parts.map (fun (i,x)=>(i,A.eval x))=pv)
  (hsm:len*s≤16777216) (hpos:len*s≠0)
  (hf:Instr.fill (fun i=>some (i*s,s)) ((Array.range (len*s)).map (z.cells[· %z.cells.size]!)) pv.toList=some cells.toArray) (hw:Want ops e g) (hdn:d<n)
  (h: ∀w' b,New w w' b el cells→ZL P n ops rest ((d,.slice (some ⟨b,0,none⟩) len len)::e) w' Q):ZL P n ops (⟨some d,.buildSlice t len parts,ty,pos,aft,g⟩::rest) e w Q:=
 zl_run (w':={w with heap:=w.heap.push (.cells cells.toArray el)}) hw rfl hdn (fun A hA=>by
  have h1:=hp A hA
  have h2: ¬(len*s>2 ^ 24):=by omega
  simp only [execOp,Sem.run_bind]
  rw [h1]
  simp only [Instr.buildSlice,Sem.run_bind,run_underlying hu.eq,Result.andThen_ok,hz.size w]
  rw [if_neg h2,if_neg hpos]
  simp only [pure_bind,Sem.run_bind,hz.zero w,Result.andThen_ok,Sem.run_pure]
  rw [hf]
  simp [newRow]) (h _ _ (New.mk' w el _))
end
open Go
inductive Ord where
 |fin
 |take (i:Nat) (r:Ord)
 |plain (i:Nat) (r:Ord)
 |all1 (i:Nat) (r:Ord)
 |all2 (i:Nat) (r:Ord) (j:Nat) (s:Ord)
 |last (i:Nat)
def waits (ops:Array Oper) (k i:Nat):Bool:=match ops[k]? with
 |some o=>o.after.any fun e=>Region.binds .any e && e.on==i
 |none=>false
def okOrd (ops:Array Oper) (ks:List Nat):Ord→Array Bool→Nat→Bool
 | .fin,l,_=>Region.ready .any ops l== []
 | .take i r,l,f+1=>(Region.ready .any ops l).contains i && Region.free .any ops l i && ks.all (fun k=>k !=i && waits ops k i && !l.getD k true) && okOrd ops ks r (l.setIfInBounds i true) f
 | .plain i r,l,f+1=>(Region.ready .any ops l).contains i && Region.free .any ops l i && ks.all (fun k=>k !=i) && okOrd ops ks r (l.setIfInBounds i true) f
 | .all1 i r,l,f+1=>Region.ready .any ops l== [i] && okOrd ops ks r (l.setIfInBounds i true) f
 | .all2 i r j s,l,f+1=>Region.ready .any ops l== [i,j] && okOrd ops ks r (l.setIfInBounds i true) f && okOrd ops ks s (l.setIfInBounds j true) f
 | .last i,l,f+1=>Region.ready .any ops l== [i] && ks.contains i && (Region.ready .any ops (l.setIfInBounds i true)== [])
 |_,_,0=>false
def wpAnyK (P:Program) (ops:Array Oper) (Q:Exit→Act→World→Prop) (ks:List Nat) (S:World→Prop):Nat→Array Bool→Act→World→Prop
 |0,l,a,w=>Region.ready .any ops l= []∧Q .normal a w
 |f+1,l,a,w=>(Region.ready .any ops l= []→Q .normal a w)∧
  ∀i∈Region.ready .any ops l,wpOp P ops Q i (fun a' w'=>((∀k∈ks,(l.setIfInBounds i true).getD k true=false)→S w')∧wpAnyK P ops Q ks S f (l.setIfInBounds i true) a' w') a w
theorem wpAny_of_K {P:Program} {ops:Array Oper} {Q:Exit→Act→World→Prop} {ks:List Nat} {S:World→Prop}: ∀(f:Nat) (l:Array Bool) (a:Act) (w:World),wpAnyK P ops Q ks S f l a w→wpAny P .any ops Q f l a w
 |0,_,_,_,h=>h
 |f+1,_,_,_,h=>⟨h.1,fun i hi=>wpOp_mono (fun a' w' h'=>wpAny_of_K f _ a' w' h'.2) (h.2 i hi)⟩
theorem wpAnyK_first {P:Program} {ops:Array Oper} {Q:Exit→Act→World→Prop} {ks:List Nat} {S:World→Prop} {i:Nat} {oi:Oper} {v:Value} (hi:ops[i]? =some oi) (hsel: ∀(j:Nat) (o:Oper) cs b,ops[j]? =some o→o.op≠ .select cs b)
  (hQ: ∀c a w,Q (.panic c) (a.put oi.dst v) w→Q (.panic c) a w) (hks: ∀k∈ks,k≠i∧waits ops k i=true):
  ∀(f:Nat) (l:Array Bool) (a:Act) (w:World),
   (∀j oj,ops[j]? =some oj→j≠i→l.getD j true=false→(∀e∈oj.after,Region.binds .any e=true→e.on≠i)→oi.apart ops oj=true)→
   i∈Region.ready .any ops l→(∀k∈ks,l.getD k true=false)→YieldsIf P ops S oi v a→S w→
   wpAnyK P ops Q ks S f (l.setIfInBounds i true) (a.put oi.dst v) w→wpAnyK P ops Q ks S (f+1) l a w:=by
 intro f
 induction f with
 |zero=>
  intro l a w _ hr hl hy hS H
  refine ⟨fun h=>(by rw [h] at hr;cases hr),fun j hj=> ?_⟩
  by_cases hji:j=i
  ·subst hji;exact hy.wpOp hi hS ⟨fun _=>hS,H⟩
  ·have:=ready_mono hj hji
   rw [H.1] at this
   cases this
 |succ f ih=>
  intro l a w hfree hr hl hy hS H
  refine ⟨fun h=>(by rw [h] at hr;cases hr),fun j hj=> ?_⟩
  by_cases hji:j=i
  ·subst hji;exact hy.wpOp hi hS ⟨fun _=>hS,H⟩
  ·have h1:=H.2 j (ready_mono hj hji)
   obtain ⟨hjun,oj,hoj,hall⟩:=mem_ready.1 hj
   have hnot: ∀e∈oj.after,Region.binds .any e=true→e.on≠i:=fun e he hb heq=>by
    have h1:=hall e he hb
    have h0:=(mem_ready.1 hr).1
    rw [heq] at h1
    rcases Nat.lt_or_ge i l.size with h'|h'
    ·simp [h'] at h0 h1;rw [h0] at h1;cases h1
    ·simp [Array.getElem?_eq_none h'] at h1
   have hkj: ∀k∈ks,k≠j:=fun k hk he=>by
    subst he
    have hw:=(hks k hk).2
    simp only [waits,hoj] at hw
    obtain ⟨e,he,hb⟩:=Array.any_eq_true'.1 hw
    simp only [Bool.and_eq_true,beq_iff_eq] at hb
    exact hnot e he hb.1 hb.2
   have hl': ∀k∈ks,(l.setIfInBounds j true).getD k true=false:=fun k hk=>by
    rw [getD_set_ne true (Ne.symm (hkj k hk))];exact hl k hk
   have hl2: ∀k∈ks,((l.setIfInBounds i true).setIfInBounds j true).getD k true=false:=fun k hk=>by
    rw [getD_set_ne true (Ne.symm (hkj k hk)),getD_set_ne true (Ne.symm (hks k hk).1)];exact hl k hk
   have h2:=wpOp_putIf hoj (hfree j oj hoj hji hjun hnot) (fun cs b=>hsel i oi cs b hi) (fun cs b=>hsel j oj cs b hoj) hQ hy h1
   have hfree': ∀k ok,ops[k]? =some ok→k≠i→(l.setIfInBounds j true).getD k true=false→
     (∀e∈ok.after,Region.binds .any e=true→e.on≠i)→oi.apart ops ok=true:=fun k ok hk hki hun hno=>by
    refine hfree k ok hk hki ?_ hno
    by_cases hjk:j=k
    ·subst hjk;exact hjun
    ·rw [getD_set_ne true hjk] at hun;exact hun
   refine wpOp_mono (fun a' w' h3=>⟨fun _=>h3.2.1 hl2,ih (l.setIfInBounds j true) a' w' hfree' (ready_mono hr (Ne.symm hji)) hl' h3.1 (h3.2.1 hl2) ?_⟩) h2
   rw [Array.setIfInBounds_comm _ _ hji]
   exact h3.2.2
theorem wpAnyK_plain {P:Program} {ops:Array Oper} {Q:Exit→Act→World→Prop} {ks:List Nat} {S:World→Prop} {i:Nat} {oi:Oper} {v:Value} (hi:ops[i]? =some oi) (hsel: ∀(j:Nat) (o:Oper) cs b,ops[j]? =some o→o.op≠ .select cs b)
  (hQ: ∀c a w,Q (.panic c) (a.put oi.dst v) w→Q (.panic c) a w) (hks: ∀k∈ks,k≠i):
  ∀(f:Nat) (l:Array Bool) (a:Act) (w:World),
   (∀j oj,ops[j]? =some oj→j≠i→l.getD j true=false→(∀e∈oj.after,Region.binds .any e=true→e.on≠i)→oi.apart ops oj=true)→
   i∈Region.ready .any ops l→YieldsIf P ops (fun _=>True) oi v a→((∀k∈ks,l.getD k true=false)→S w)→
   wpAnyK P ops Q ks S f (l.setIfInBounds i true) (a.put oi.dst v) w→wpAnyK P ops Q ks S (f+1) l a w:=by
 intro f
 induction f with
 |zero=>
  intro l a w _ hr hy hS H
  refine ⟨fun h=>(by rw [h] at hr;cases hr),fun j hj=> ?_⟩
  by_cases hji:j=i
  ·subst hji;exact hy.wpOp hi trivial ⟨fun hk=>hS (fun k hk'=>by have:=hk k hk';rwa [getD_set_ne true (Ne.symm (hks k hk'))] at this),H⟩
  ·have:=ready_mono hj hji
   rw [H.1] at this
   cases this
 |succ f ih=>
  intro l a w hfree hr hy hS H
  refine ⟨fun h=>(by rw [h] at hr;cases hr),fun j hj=> ?_⟩
  by_cases hji:j=i
  ·subst hji;exact hy.wpOp hi trivial ⟨fun hk=>hS (fun k hk'=>by have:=hk k hk';rwa [getD_set_ne true (Ne.symm (hks k hk'))] at this),H⟩
  ·have h1:=H.2 j (ready_mono hj hji)
   obtain ⟨hjun,oj,hoj,hall⟩:=mem_ready.1 hj
   have hnot: ∀e∈oj.after,Region.binds .any e=true→e.on≠i:=fun e he hb heq=>by
    have h1:=hall e he hb
    have h0:=(mem_ready.1 hr).1
    rw [heq] at h1
    rcases Nat.lt_or_ge i l.size with h'|h'
    ·simp [h'] at h0 h1;rw [h0] at h1;cases h1
    ·simp [Array.getElem?_eq_none h'] at h1
   have hl2:(∀k∈ks,(l.setIfInBounds j true).getD k true=false)→ ∀k∈ks,((l.setIfInBounds i true).setIfInBounds j true).getD k true=false:=fun hl k hk=>by
    rw [Array.setIfInBounds_comm _ _ (Ne.symm hji),getD_set_ne true (Ne.symm (hks k hk))];exact hl k hk
   have h2:=wpOp_putIf hoj (hfree j oj hoj hji hjun hnot) (fun cs b=>hsel i oi cs b hi) (fun cs b=>hsel j oj cs b hoj) hQ hy h1
   have hfree': ∀k ok,ops[k]? =some ok→k≠i→(l.setIfInBounds j true).getD k true=false→
     (∀e∈ok.after,Region.binds .any e=true→e.on≠i)→oi.apart ops ok=true:=fun k ok hk hki hun hno=>by
    refine hfree k ok hk hki ?_ hno
    by_cases hjk:j=k
    ·subst hjk;exact hjun
    ·rw [getD_set_ne true hjk] at hun;exact hun
   refine wpOp_mono (fun a' w' h3=>⟨fun hl=>h3.2.1 (hl2 hl),ih (l.setIfInBounds j true) a' w' hfree' (ready_mono hr (Ne.symm hji)) h3.1 (fun hl=>h3.2.1 (hl2 hl)) ?_⟩) h2
   rw [Array.setIfInBounds_comm _ _ hji]
   exact h3.2.2
def NP (Q:Exit→Act→World→Prop):Exit→Act→World→Prop
 | .panic _,_,_=>False
 |x,a,w=>Q x a w
theorem NP.le {Q:Exit→Act→World→Prop}: ∀x a w,NP Q x a w→Q x a w:=fun x a w h=>by cases x<;>first|exact h|exact h.elim
section
variable {P : Program} {n : Nat} {e : Env} {w : World} {Q : Exit → Act → World → Prop} {ops : Array Oper} {ks : List Nat} {S : World → Prop}
def ZS (P:Program) (n:Nat) (ops:Array Oper) (ks:List Nat) (S:World→Prop) (o:Ord) (e:Env) (w:World) (Q:Exit→Act→World→Prop):Prop:=
 Region.noSelect ops=true→S w→ ∀a,Ok n e a→ ∀(fuel:Nat) (listed:Array Bool),okOrd ops ks o listed fuel=true→wpAnyK P ops (NP Q) ks S fuel listed a w
theorem zc_draw {id:Nat} {l:List Oper} (ks:List Nat) (S:World→Prop) (o:Ord) (hm:P.follows .mixedOrders=true) (hs:Region.noSelect l.toArray=true) (hok:okOrd l.toArray ks o (Array.replicate l.toArray.size false) l.toArray.size=true)
  (h: ∀w',Chg w w' No→w'.heap=w.heap→S w'∧ZS P n l.toArray ks S o e w' Q):ZC P n (.region id l.toArray true) e w Q:=fun a ha=>by
 refine wp_mono (wp_region_any (Q:=NP Q) hm (wpAny_of_K (ks:=ks) (S:=S) _ _ _ _ ?_)) NP.le
 obtain ⟨h1,h2⟩:=h {w with drawn:=w.drawn+1} ⟨rfl,rfl,rfl,Nat.le_refl _,fun _ _ _=>rfl⟩ rfl
 exact h2 hs h1 a ha _ _ hok
theorem zs_fin (h:ZK n .normal e w Q):ZS P n ops ks S .fin e w Q:=fun hsel hS a ha fuel listed hok=>by
 have hr:Region.ready .any ops listed= []:=by
  cases fuel<;>simpa [okOrd] using hok
 cases fuel with
 |zero=>exact ⟨hr,h a ha⟩
 |succ f=>exact ⟨fun _=>h a ha,by rw [hr];intro i hi;cases hi⟩
theorem zs_takeY {i:Nat} {o:Oper} {v:Value} {e':Env} {r:Ord} (hi:ops[i]? =some o) (hy: ∀a,Ok n e a→YieldsIf P ops S o v a) (he: ∀a,Ok n e a→Ok n e' (a.put o.dst v))
  (h:ZS P n ops ks S r e' w Q):ZS P n ops ks S (.take i r) e w Q:=fun hsel hS a ha fuel listed hok=>by
 cases fuel with
 |zero=>simp [okOrd] at hok
 |succ f=>
  simp only [okOrd,Bool.and_eq_true] at hok
  obtain ⟨⟨⟨h1,h2⟩,h4⟩,h3⟩:=hok
  have h5: ∀k∈ks,(k≠i∧waits ops k i=true)∧listed.getD k true=false:=fun k hk=>by
   have:=List.all_eq_true.1 h4 k hk
   simp only [Bool.and_eq_true,bne_iff_ne,ne_eq,Bool.not_eq_true'] at this
   exact this
  exact wpAnyK_first hi (Region.noSelect_spec hsel) (fun c a w hq=>hq) (fun k hk=>(h5 k hk).1) f listed a w (Region.free_spec hi h2) (by simpa using h1) (fun k hk=>(h5 k hk).2) (hy a ha) hS (h hsel hS _ (he a ha) f _ h3)
theorem zs_rd {i:Nat} {o:Oper} {d:Tmp} {v:Value} {r:Ord} (hi:ops[i]? =some o) (hw:Want ops e o.guard) (hd:o.dst=some d) (hdn:d<n) (hr: ∀w',S w'→Rd P n e w' o v)
  (h:ZS P n ops ks S r ((d,v)::e) w Q):ZS P n ops ks S (.take i r) e w Q:=
 zs_takeY hi (fun a ha=> .inl ⟨hw.wanted ha,fun w' hS=>hr w' hS a ha⟩) (fun a ha=>by rw [hd];exact ha.put d v hdn) h
theorem stepP_yields {o:Oper} {d:Tmp} {v:Value} (hs:stepP n ops e o=some (d,v)):o.dst=some d∧d<n∧ ∀a,Ok n e a→Yields P ops o v a:=by
 unfold stepP at hs
 split at hs
 ·rename_i d' hd
  split at hs
  ·rename_i hlt
   have hdn:d'<n:=by simpa [Nat.blt_eq] using hlt
   split at hs
   ·rename_i hw
    split at hs
    ·rename_i v' hv
     cases hs
     exact ⟨hd,hdn,fun a ha=> .inl ⟨(wantB_yes hw).wanted ha,fun w=>pv_run rfl hv a ha⟩⟩
    ·cases hs
   ·rename_i hw
    cases hs
    refine ⟨hd,hdn,fun a ha=> .inr ⟨?_,rfl⟩⟩
    cases hg:o.guard with
    |none=>rw [hg] at hw;simp [wantB] at hw
    |some jb=>
     obtain ⟨j,b⟩:=jb
     rw [hg] at hw
     simp only [wantB] at hw
     split at hw
     ·rename_i t ht
      simp only [Region.wanted,hg,yielded,ht,Option.bind_some]
      split at hw
      ·rename_i hx;cases hw;simp [ha.at_ t _ hx]
      ·rename_i hx;simp at hw;subst hw;simp [ha.at_ t _ hx]
      ·rename_i hx;simp [ha.at_ t _ hx]
      ·cases hw
     ·cases hw
   ·cases hs
  ·cases hs
 ·cases hs
theorem zs_pure {i:Nat} {o:Oper} {d:Tmp} {v:Value} {r:Ord} (hi:ops[i]? =some o) (hs:stepP n ops e o=some (d,v)) (h:ZS P n ops ks S r ((d,v)::e) w Q):ZS P n ops ks S (.take i r) e w Q:=by
 obtain ⟨hd,hdn,hy⟩:=stepP_yields (P:=P) hs
 exact zs_takeY hi (fun a ha=>(hy a ha).yieldsIf) (fun a ha=>by rw [hd];exact ha.put d v hdn) h
theorem zs_pureP {i:Nat} {o:Oper} {d:Tmp} {v:Value} {r:Ord} (hi:ops[i]? =some o) (hs:stepP n ops e o=some (d,v)) (h:ZS P n ops ks S r ((d,v)::e) w Q):ZS P n ops ks S (.plain i r) e w Q:=fun hsel hS a ha fuel listed hok=>by
 obtain ⟨hd,hdn,hy⟩:=stepP_yields (P:=P) hs
 cases fuel with
 |zero=>simp [okOrd] at hok
 |succ f=>
  simp only [okOrd,Bool.and_eq_true] at hok
  obtain ⟨⟨⟨h1,h2⟩,h4⟩,h3⟩:=hok
  have h5: ∀k∈ks,k≠i:=fun k hk=>by
   have:=List.all_eq_true.1 h4 k hk
   simpa using this
  exact wpAnyK_plain hi (Region.noSelect_spec hsel) (fun c a w hq=>hq) h5 f listed a w (Region.free_spec hi h2) (by simpa using h1) (hy a ha).yieldsIf (fun _=>hS) (h hsel hS _ (by rw [hd];exact ha.put d v hdn) f _ h3)
theorem zs_all1 {i:Nat} {r:Ord} (h:S w→ ∀a,Ok n e a→wpOp P ops (NP Q) i (fun a' w'=>S w'∧ ∃e',Ok n e' a'∧ZS P n ops ks S r e' w' Q) a w):ZS P n ops ks S (.all1 i r) e w Q:=fun hsel hS a ha fuel listed hok=>by
 cases fuel with
 |zero=>simp [okOrd] at hok
 |succ f=>
  simp only [okOrd,Bool.and_eq_true,beq_iff_eq] at hok
  obtain ⟨h1,h3⟩:=hok
  refine ⟨fun h0=>(by rw [h1] at h0;cases h0),?_⟩
  rw [h1]
  intro j hj
  simp only [List.mem_singleton] at hj
  subst hj
  exact wpOp_mono (fun a' w' ⟨h5,e',h6,h7⟩=>⟨fun _=>h5,h7 hsel h5 a' h6 f _ h3⟩) (h hS a ha)
theorem zs_all2 {i j:Nat} {r s:Ord} (h:S w→ ∀a,Ok n e a→wpOp P ops (NP Q) i (fun a' w'=>S w'∧ ∃e',Ok n e' a'∧ZS P n ops ks S r e' w' Q) a w∧wpOp P ops (NP Q) j (fun a' w'=>S w'∧ ∃e',Ok n e' a'∧ZS P n ops ks S s e' w' Q) a w):ZS P n ops ks S (.all2 i r j s) e w Q:=fun hsel hS a ha fuel listed hok=>by
 cases fuel with
 |zero=>simp [okOrd] at hok
 |succ f=>
  simp only [okOrd,Bool.and_eq_true,beq_iff_eq] at hok
  obtain ⟨⟨h1,h3⟩,h4⟩:=hok
  refine ⟨fun h0=>(by rw [h1] at h0;cases h0),?_⟩
  rw [h1]
  intro k hk
  simp only [List.mem_cons,List.not_mem_nil,or_false] at hk
  obtain ⟨ha1,ha2⟩:=h hS a ha
  rcases hk with rfl|rfl
  ·exact wpOp_mono (fun a' w' ⟨h5,e',h6,h7⟩=>⟨fun _=>h5,h7 hsel h5 a' h6 f _ h3⟩) ha1
  ·exact wpOp_mono (fun a' w' ⟨h5,e',h6,h7⟩=>⟨fun _=>h5,h7 hsel h5 a' h6 f _ h4⟩) ha2
theorem zs_last {i:Nat} (h:S w→ ∀a,Ok n e a→wpOp P ops (NP Q) i (fun a' w'=> ∃e',Ok n e' a'∧ZK n .normal e' w' Q) a w):ZS P n ops ks S (.last i) e w Q:=fun hsel hS a ha fuel listed hok=>by
 cases fuel with
 |zero=>simp [okOrd] at hok
 |succ f=>
  simp only [okOrd,Bool.and_eq_true,beq_iff_eq] at hok
  obtain ⟨⟨h1,h3⟩,h4⟩:=hok
  refine ⟨fun h0=>(by rw [h1] at h0;cases h0),?_⟩
  rw [h1]
  intro j hj
  simp only [List.mem_singleton] at hj
  subst hj
  refine wpOp_mono (fun a' w' ⟨e',h6,h7⟩=>⟨fun hk=> ?_,?_⟩) (h hS a ha)
  ·have:=hk j (by simpa using h3)
   rcases Nat.lt_or_ge j listed.size with h'|h'
   ·simp [h'] at this
   ·simp [Array.getElem?_eq_none,h'] at this
  ·cases f with
   |zero=>exact ⟨h4,h7 _ h6⟩
   |succ f=>exact ⟨fun _=>h7 _ h6,by rw [h4];intro i hi;cases hi⟩
theorem zs_runUL {i:Nat} {o:Oper} {w':World} (hi:ops[i]? =some o) (hw:Want ops e o.guard) (hd:o.dst=none) (hr: ∀a,Ok n e a→(execOp a.eval o).run P w= .ok .skip w')
  (h:ZK n .normal e w' Q):ZS P n ops ks S (.last i) e w Q:=zs_last fun hS0 a ha=>by
 unfold wpOp
 simp only [hi,hw.wanted ha,if_true]
 refine .inl ?_
 unfold Oper.wp
 rw [hr a ha,Oper.upon_skip,hd]
 exact ⟨_,ha,h⟩
theorem zs_run {i:Nat} {o:Oper} {d:Tmp} {v:Value} {w':World} {r:Ord} (hi:ops[i]? =some o) (hw:Want ops e o.guard) (hd:o.dst=some d) (hdn:d<n) (hr: ∀a,Ok n e a→(execOp a.eval o).run P w= .ok (.value v) w')
  (hS:S w') (h:ZS P n ops ks S r ((d,v)::e) w' Q):ZS P n ops ks S (.all1 i r) e w Q:=zs_all1 fun hS0 a ha=>by
 unfold wpOp
 simp only [hi,hw.wanted ha,if_true]
 refine .inl ?_
 unfold Oper.wp
 rw [hr a ha,Oper.upon_value,hd]
 exact ⟨hS,_,ha.put d v hdn,h⟩
theorem zs_runU {i:Nat} {o:Oper} {w':World} {r:Ord} (hi:ops[i]? =some o) (hw:Want ops e o.guard) (hd:o.dst=none) (hr: ∀a,Ok n e a→(execOp a.eval o).run P w= .ok .skip w')
  (hS:S w') (h:ZS P n ops ks S r e w' Q):ZS P n ops ks S (.all1 i r) e w Q:=zs_all1 fun hS0 a ha=>by
 unfold wpOp
 simp only [hi,hw.wanted ha,if_true]
 refine .inl ?_
 unfold Oper.wp
 rw [hr a ha,Oper.upon_skip,hd]
 exact ⟨hS,_,ha,h⟩
theorem zs_pure1 {i:Nat} {o:Oper} {d:Tmp} {v:Value} {r:Ord} (hi:ops[i]? =some o) (hs:stepP n ops e o=some (d,v)) (h:ZS P n ops ks S r ((d,v)::e) w Q):ZS P n ops ks S (.all1 i r) e w Q:=zs_all1 fun hS0 a ha=>by
 obtain ⟨hd,hdn,hy⟩:=stepP_yields (P:=P) hs
 exact (hy a ha).wpOp hi ⟨hS0,_,by rw [hd];exact ha.put d v hdn,h⟩
theorem zs_call {i:Nat} {dst:Option Tmp} {d:Tmp} {f:FuncId} {l:List Operand} {ats:Array TypeId} {ty:TypeId} {pos:String} {aft:Array Edge} {g:Option (Nat×Bool)} {vs:List Value} {R:Ending→World→Prop} {r:Ord} [hf:IsFn P f]
  (hi:ops[i]? =some ⟨dst,.call {callee:= .value (.func f),args:=l.toArray,argTypes:=ats},ty,pos,aft,g⟩) (hw:Want ops e g) (hd:dst=some d) (hdn:d<n) (hx:evs e l=some vs)
  (hc:Calls P f vs.toArray w R) (h: ∀x w',R x w'→ ∃v,x= .returned v∧S w'∧ZS P n ops ks S r ((d,v)::e) w' Q):ZS P n ops ks S (.all1 i r) e w Q:=zs_all1 fun hS0 A hA=>by
 subst hd
 obtain ⟨fn,h1,h2,h3⟩:=hf.ex
 unfold wpOp
 rw [hi]
 simp only [Want.wanted (o:=⟨some d,.call {callee:= .value (.func f),args:=l.toArray,argTypes:=ats},ty,pos,aft,g⟩) hw hA,if_true]
 refine .inl ?_
 unfold Oper.wp
 have hm:l.map A.eval=vs:=evs_map hA hx
 have h2': ¬fn.name= "runtime.NumGoroutine" :=by simpa using h2
 have h3': ¬fn.body=none:=fun h=>by simp [h] at h3
 have hr:(execOp A.eval (⟨some d,.call {callee:= .value (.func f),args:=l.toArray,argTypes:=ats},ty,pos,aft,g⟩:Oper)).run P w= .ok (.enter f vs.toArray) w:=by
  simp [execOp,resolve,Act.eval,Deferred.ofValue,invoke,callFunc,h1,h2',h3',hm]
 rw [hr,Oper.upon_enter]
 refine hc.mono fun x w' hx=> ?_
 obtain ⟨v,rfl,hS',hz⟩:=h x w' hx
 exact ⟨hS',_,hA.put d v hdn,hz⟩
theorem zs_cmp {i:Nat} {d:Tmp} {ty xt yt:TypeId} {pos:String} {aft:Array Edge} {g:Option (Nat×Bool)} {x y:Operand} {r:Ord} {op:BinOp} {k:IntKind} {a b:Int} {p:Prop} (hi:ops[i]? =some ⟨some d,.binOp op xt x y yt,ty,pos,aft,g⟩)
  (hw:Want ops e g) (hdn:d<n) (hx:ev e x=some (.int k a)) (hy:ev e y=some (.int k b)) (hop:cmpP op a b=some p)
  (ht:p→ZS P n ops ks S r ((d,.bool true)::e) w Q) (hf: ¬p→ZS P n ops ks S r ((d,.bool false)::e) w Q):ZS P n ops ks S (.take i r) e w Q:=by
 by_cases hp:p
 ·exact zs_rd hi hw rfl hdn (fun _ _=>r_cmpB hx hy hop (r:=true) (by simp [hp])) (ht hp)
 ·exact zs_rd hi hw rfl hdn (fun _ _=>r_cmpB hx hy hop (r:=false) (by simp [hp])) (hf hp)
theorem r_neS0 {d:Tmp} {ty xt yt:TypeId} {pos:String} {aft:Array Edge} {g:Option (Nat×Bool)} {x y:Operand} {a b:ByteArray} (hx:ev e x=some (.string a)) (hy:ev e y=some (.string b)) (hp:a=b):Rd P n e w ⟨some d,.binOp .neq xt x y yt,ty,pos,aft,g⟩ (.bool false):=fun A hA=>by
 simp [execOp,hA.ev hx,hA.ev hy,run_str_eqGuard,binOp,Op.stringOp,hp]
end
open Go
def RdS (w:World) (t sz:Nat) (v:Value) (m:Nat) (cs:List Value):Prop:=
 cs.length=m*sz∧(∀u∈cs,u.oneCell'=true)∧ ∃A c,v= .slice A m c∧m≤c∧(0<m→ ∃b o cells,A=some ⟨b,o,none⟩∧Blk w b t cells∧ ∀j u,cs[j]? =some u→cells[o+j]? =some u)
section
variable {w w' : World} {t sz m : Nat} {v : Value} {cs : List Value} {S : Nat → Prop}
theorem RdS.chg (h:RdS w t sz v m cs) (hc:Chg w w' S) (hS: ∀b cells,Blk w b t cells→ ¬S b):RdS w' t sz v m cs:=by
 obtain ⟨h1,h2,A,c,h3,h4,h5⟩:=h
 refine ⟨h1,h2,A,c,h3,h4,fun hm=> ?_⟩
 obtain ⟨b,o,cells,h6,h7,h8⟩:=h5 hm
 exact ⟨b,o,cells,h6,h7.chg hc (hS b cells h7),h8⟩
theorem RdS.no (h:RdS w t sz v m cs) (hc:Chg w w' No):RdS w' t sz v m cs:=h.chg hc (fun _ _ _=>id)
theorem RdS.upd {b':Nat} {t':TypeId} {cs':List Value} (h:RdS w t sz v m cs) (hu:Upd w w' b' t' cs') (ht:t≠t'):RdS w' t sz v m cs:=by
 obtain ⟨_,h0⟩:=hu.old
 exact h.chg hu.chg (fun b cells hb=>hb.ne h0 ht)
theorem RdS.nil:RdS w t sz (.slice none 0 0) 0 []:=⟨by simp,by simp,none,0,rfl,Nat.le_refl _,fun h=>absurd h (Nat.lt_irrefl 0)⟩
theorem RdS.form (h:RdS w t sz v m cs): ∃A c,v= .slice A m c∧m≤c:=by
 obtain ⟨_,_,A,c,h3,h4,_⟩:=h;exact ⟨A,c,h3,h4⟩
theorem RdS.len (h:RdS w t sz v m cs):cs.length=m*sz:=h.1
theorem RdS.one (h:RdS w t sz v m cs): ∀u∈cs,u.oneCell'=true:=h.2.1
theorem RdS.some (h:RdS w t sz v m cs) (hm:0<m): ∃b o c,v= .slice (some ⟨b,o,none⟩) m c∧m≤c∧ ∀j u,cs[j]? =Option.some u→w.cell? ⟨b,o+j,none⟩=Option.some u:=by
 obtain ⟨h1,h2,A,c,h3,h4,h5⟩:=h
 obtain ⟨b,o,cells,h6,h7,h8⟩:=h5 hm
 subst h6
 exact ⟨b,o,c,h3,h4,fun j u hj=>by rw [h7.cell];exact h8 j u hj⟩
theorem RdS.blk {b:Nat} {c:Nat} {cells:List Value} (hb:Blk w b t cells) (hl:cs.length=m*sz) (hc:m≤c) (h1: ∀u∈cs,u.oneCell'=true) (o:Nat) (hp: ∀j u,cs[j]? =Option.some u→cells[o+j]? =Option.some u):RdS w t sz (.slice (Option.some ⟨b,o,none⟩) m c) m cs:=
 ⟨hl,h1,_,c,rfl,hc,fun _=>⟨b,o,cells,rfl,hb,hp⟩⟩
theorem RdS.new {b:Nat} (hb:New w w' b t cs) (hl:cs.length=m*sz) (h1: ∀u∈cs,u.oneCell'=true):RdS w' t sz (.slice (Option.some ⟨b,0,none⟩) m m) m cs:=
 RdS.blk hb.blk hl (Nat.le_refl _) h1 0 (fun j u hj=>by simpa using hj)
end
def Own (w:World) (t sz:Nat) (v:Value) (m:Nat) (cs:List Value):Prop:=w.ownsRow 0 t sz v m cs∧ ∀u∈cs,u.oneCell'=true
section
variable {w w' : World} {t sz m : Nat} {v : Value} {cs : List Value} {S : Nat → Prop}
theorem Own.nil:Own w t sz (.slice none 0 0) 0 []:=⟨⟨by simp,.inl ⟨rfl,rfl⟩⟩,by simp⟩
theorem Own.cases (h:Own w t sz v m cs):cs.length=m*sz∧((v= .slice none 0 0∧m=0∧cs= [])∨ ∃b cap junk,v= .slice (some ⟨b,0,none⟩) m cap∧m≤cap∧cap≤maxLen∧Blk w b t (cs++junk)∧(cs++junk).length=cap*sz):=by
 obtain ⟨⟨h1,h2⟩,h3⟩:=h
 refine ⟨h1,?_⟩
 rcases h2 with ⟨rfl,rfl⟩|⟨g,cap,cur,rfl,_,hg,h5,h6,h7,h8⟩
 ·exact .inl ⟨rfl,rfl,List.eq_nil_of_length_eq_zero (by simpa using h1)⟩
 ·have hj:cs++cur.toList.drop (m*sz)=cur.toList:=by rw [←h8,List.take_append_drop]
  refine .inr ⟨g,cap,cur.toList.drop (m*sz),rfl,h5,h6,?_,?_⟩
  ·rw [hj];simpa [Blk] using hg
  ·rw [hj];simpa using h7
theorem Own.mk' {b cap:Nat} {junk:List Value} (hl:cs.length=m*sz) (hc:m≤cap) (hm:cap≤maxLen) (hb:Blk w b t (cs++junk)) (hj:(cs++junk).length=cap*sz) (h1: ∀u∈cs,u.oneCell'=true):Own w t sz (.slice (some ⟨b,0,none⟩) m cap) m cs:=by
 refine ⟨⟨hl,.inr ⟨b,cap,(cs++junk).toArray,rfl,Nat.zero_le _,hb,hc,hm,by simpa using hj,?_⟩⟩,h1⟩
 rw [List.toList_toArray,←hl,List.take_left]
theorem Own.chg (h:Own w t sz v m cs) (hc:Chg w w' S) (hS: ∀k,v.ownBlock=some k→ ¬S k):Own w' t sz v m cs:=by
 have h0:=h
 obtain ⟨h1,h2⟩:=h.cases
 rcases h2 with ⟨rfl,rfl,rfl⟩|⟨b,cap,junk,rfl,h3,h4,h5,h6⟩
 ·exact Own.nil
 ·exact Own.mk' h1 h3 h4 (h5.chg hc (hS b rfl)) h6 h0.2
theorem Own.no (h:Own w t sz v m cs) (hc:Chg w w' No):Own w' t sz v m cs:=h.chg hc (fun _ _=>id)
theorem Own.blk (h:Own w t sz v m cs) {k:Nat} (hk:v.ownBlock=some k): ∃cells,Blk w k t cells:=by
 obtain ⟨h1,h2⟩:=h.cases
 rcases h2 with ⟨rfl,rfl,rfl⟩|⟨b,cap,junk,rfl,h3,h4,h5,h6⟩
 ·simp [Value.ownBlock] at hk
 ·simp [Value.ownBlock] at hk;subst hk;exact ⟨_,h5⟩
theorem Own.lt (h:Own w t sz v m cs) {k:Nat} (hk:v.ownBlock=some k):k<w.heap.size:=by obtain ⟨_,hb⟩:=h.blk hk;exact hb.lt
theorem Own.upd {b':Nat} {t':TypeId} {cs':List Value} (h:Own w t sz v m cs) (hu:Upd w w' b' t' cs') (ht:t≠t'):Own w' t sz v m cs:=by
 obtain ⟨_,h0⟩:=hu.old
 exact h.chg hu.chg (fun k hk=>by obtain ⟨_,hb⟩:=h.blk hk;exact hb.ne h0 ht)
theorem Own.ne (h:Own w t sz v m cs) {k b t':Nat} {cs':List Value} (hk:v.ownBlock=some k) (hb:Blk w b t' cs') (ht:t≠t'):k≠b:=by
 obtain ⟨_,h2⟩:=h.blk hk;exact h2.ne hb ht
theorem Own.rd (h:Own w t sz v m cs):RdS w t sz v m cs:=by
 have h0:=h
 obtain ⟨h1,h2⟩:=h.cases
 rcases h2 with ⟨rfl,rfl,rfl⟩|⟨b,cap,junk,rfl,h3,h4,h5,h6⟩
 ·exact RdS.nil
 ·exact RdS.blk h5 h1 h3 h0.2 0 (fun j u hj=>by
   rw [Nat.zero_add,List.getElem?_append_left (List.getElem?_eq_some_iff.1 hj).1];exact hj)
theorem Own.take {A:Option Addr} {c:Nat} (h:Own w t sz (.slice A m c) m cs) (k:Nat) (hk:k≤m):Own w t sz (.slice A k c) k (cs.take (k*sz)):=by
 have h0:=h
 obtain ⟨h1,h2⟩:=h.cases
 rcases h2 with ⟨hv,rfl,rfl⟩|⟨b,cap,junk,hv,h3,h4,h5,h6⟩
 ·cases hv;obtain rfl:k=0:=by omega
  simpa using (Own.nil (w:=w) (t:=t) (sz:=sz))
 ·cases hv
  have hle:k*sz≤cs.length:=by rw [h1];exact Nat.mul_le_mul_right _ hk
  have e:cs.take (k*sz)++(cs.drop (k*sz)++junk)=cs++junk:=by rw [←List.append_assoc,List.take_append_drop]
  refine Own.mk' (junk:=cs.drop (k*sz)++junk) (by rw [List.length_take];omega) (by omega) h4 (by rw [e];exact h5) (by rw [e];exact h6) (fun u hu=>h0.2 u (List.mem_of_mem_take hu))
theorem Own.lay {b c o:Nat} {vs:List Value} (h:Own w t sz (.slice (some ⟨b,0,none⟩) m c) m cs) (ho:o+vs.length≤cs.length) (h1: ∀u∈vs,u.oneCell'=true): ∃cells:List Value,Blk w b t cells∧o+vs.length≤cells.length∧(∀(j:Nat) (u:Value),cs[j]? =some u→cells[j]? =some u)∧
  ∀w',Upd w w' b t (Z.lay cells o vs)→Own w' t sz (.slice (some ⟨b,0,none⟩) m c) m (Z.lay cs o vs):=by
 have h0:=h
 obtain ⟨h2,h3⟩:=h.cases
 rcases h3 with ⟨hv,_⟩|⟨b,cap,junk,hv,h3,h4,h5,h6⟩
 ·cases hv
 ·cases hv
  have e:Z.lay (cs++junk) o vs=Z.lay cs o vs++junk:=by
   unfold Z.lay
   rw [List.take_append_of_le_length (by omega),List.drop_append_of_le_length (by omega),List.append_assoc,List.append_assoc,List.append_assoc]
  refine ⟨cs++junk,h5,by rw [List.length_append];omega,fun j u hj=>by rw [List.getElem?_append_left (List.getElem?_eq_some_iff.1 hj).1];exact hj,fun w' hu=> ?_⟩
  have hll:(Z.lay cs o vs).length=cs.length:=by unfold Z.lay;simp;omega
  refine Own.mk' (junk:=junk) (by rw [hll,h2]) h3 h4 (by rw [←e];exact hu.blk) (by rw [List.length_append,hll,←List.length_append];exact h6) (fun u hu'=> ?_)
  unfold Z.lay at hu'
  simp only [List.mem_append] at hu'
  rcases hu' with (hu'|hu')|hu'
  ·exact h0.2 u (List.mem_of_mem_take hu')
  ·exact h1 u hu'
  ·exact h0.2 u (List.mem_of_mem_drop hu')
end
open Go
section
variable {α β : Type} {R R' : α → β → Prop}
end
section
variable {P : Program} {n : Nat} {e : Env} {w : World} {Q : Exit → Act → World → Prop} {ops : Array Oper} {rest : List Oper}
variable {d : Tmp} {ty : TypeId} {pos : String} {aft : Array Edge} {g : Option (Nat × Bool)}
theorem append_run {s x:Operand} {t el:TypeId} {sz k m m':Nat} {z v xv:Value} {xs news:List Value} [hu:Und P t (.slice el)] [hz:Inf P el sz k z] (hzs:z.cells.size=sz) (hsz:0<sz)
  (hs:ev e s=some v) (hx:ev e x=some xv) (hown:Own w el sz v m xs) (hnews:RdS w el sz xv m' news) (h63:m+m'≤9223372036854775807) (hby:(m+m')*k≤140737488355328):
  ∃v' w',(∀a,Ok n e a→(execOp a.eval (⟨some d,.call {callee:= .builtin .append,args:= #[s,x],argTypes:= #[t,t]},ty,pos,aft,g⟩:Oper)).run P w= .ok (.value v') w')∧
   Own w' el sz v' (m+m') (xs++news)∧Chg w w' (fun k=>v.ownBlock=some k)∧(v'.ownBlock=v.ownBlock∨ ∃k,v'.ownBlock=some k∧w.heap.size≤k):=by
 obtain ⟨i,hi1,hi2,hi3,hi4⟩:=hz.ex
 by_cases hm:m'=0
 ·subst hm
  obtain ⟨A,c,rfl,_⟩:=hnews.form
  have hn:news= []:=List.eq_nil_of_length_eq_zero (by simpa using hnews.len)
  subst hn
  have hv: ∃B c0,v= .slice B m c0∧m≤c0:=hown.rd.form
  obtain ⟨B,c0,rfl,hc⟩:=hv
  refine ⟨.slice B m c0,w,fun a ha=> ?_,by simpa using hown,Chg.refl _ _,.inl rfl⟩
  have hr:(Builtin.append_ #[t,t] ty #[.slice B m c0,.slice A 0 c]).run P w= .ok (.slice B m c0) w:=by
   have hl:(loadCells (A.getD ⟨0,0,none⟩) 0).run P w= .ok #[] w:=rfl
   cases A with
   |none=>cases B<;>simp [Builtin.append_,run_underlying hu.eq,sizeOf,typeInfo,hi1,Builtin.lenOf,Builtin.firstCells,hc,storeCells]
   |some ad=>
    simp only [Option.getD_some] at hl
    cases B<;>simp [Builtin.append_,run_underlying hu.eq,sizeOf,typeInfo,hi1,Builtin.lenOf,Builtin.firstCells,hc,storeCells,hl]
  simp [execOp,resolve,invoke,builtin,ha.ev hs,ha.ev hx,hr]
 ·obtain ⟨b,o,c,rfl,hcm,hnw0⟩:=hnews.some (by omega)
  have hnw: ∀j u,news[j]? =some u→w.cell? ((⟨b,o,none⟩:Addr).add j)=some u:=fun j u hj=>by rw [addr_add];exact hnw0 j u hj
  have hl:=hnews.len
  obtain ⟨v',w',hr,ho,hg,hnil⟩:=run_append_own w 0 t ty el i z sz k hu.eq hi1 hi4 hi2 hi3 hzs hsz v m xs hown.1 ⟨b,o,none⟩ m' c news hl hnw hnews.one (by simpa [maxLen] using h63) hby (Nat.zero_le _)
  refine ⟨v',w',fun a ha=>by simp [execOp,resolve,invoke,builtin,ha.ev hs,ha.ev hx,hr],⟨ho,fun u hu'=> ?_⟩,⟨hg.os,hg.tape,hg.output,hg.size,fun k hk hn=>hg.block k hk (fun he=>hn he.symm)⟩,?_⟩
  ·rcases List.mem_append.1 hu' with h|h
   ·exact hown.2 u h
   ·exact hnews.one u h
  have inj: ∀{v2:Value} {w2:World},(Builtin.append_ #[t,t] ty #[v,.slice (some ⟨b,o,none⟩) m' c]).run P w= .ok v2 w2→v'=v2:=fun h2=>by
   have:=hr.symm.trans h2;cases this;rfl
  have hsz':i.size=sz:=hi2
  subst hsz'
  rcases hown.1.2 with ⟨rfl,rfl⟩|⟨g0,cap,cur,rfl,hbg,hg0,hnc,hcm,hcs,htake⟩
  ·have h2:=inj (run_append_nil (P:=P) w t ty el i z hu.eq hi1 hi4 ⟨b,o,none⟩ m' c news hl hnw (by omega) (by omega) (by subst hi3;have hb:=hby;simp only [Nat.zero_add] at hb;omega))
   subst h2
   exact .inr ⟨_,rfl,Nat.le_refl _⟩
  ·by_cases hroom:m+m'≤cap
   ·have hfit:m*i.size+news.length≤cur.size:=by rw [hl,hcs,←Nat.add_mul];exact Nat.mul_le_mul_right _ hroom
    have h2:=inj (run_append_room (P:=P) w t ty el i hu.eq hi1 g0 m cap cur hg0 ⟨b,o,none⟩ m' c news hl hnw hnews.one hroom hfit)
    subst h2
    exact .inl rfl
   ·have holds: ∀j u,xs[j]? =some u→w.cell? ((⟨g0,0,none⟩:Addr).add j)=some u:=hown.1.cells (g:=g0) rfl
    have h2:=inj (run_append_grow (P:=P) w t ty el i z hu.eq hi1 hi4 ⟨g0,0,none⟩ m cap xs hown.1.1 holds ⟨b,o,none⟩ m' c news hl hnw (by omega) (by omega) (growslice_fits (by omega) (by subst hi3;exact hby)))
    subst h2
    exact .inr ⟨_,rfl,Nat.le_refl _⟩
theorem z_appendO {s x:Operand} {t el:TypeId} {sz k m m':Nat} {z v xv:Value} {xs news:List Value} [hu:Und P t (.slice el)] [hz:Inf P el sz k z] (hzs:z.cells.size=sz) (hsz:0<sz) (hw:Want ops e g) (hdn:d<n)
  (hs:ev e s=some v) (hx:ev e x=some xv) (hown:Own w el sz v m xs) (hnews:RdS w el sz xv m' news) (h63:m+m'≤9223372036854775807) (hby:(m+m')*k≤140737488355328)
  (h: ∀v' w',Own w' el sz v' (m+m') (xs++news)→Chg w w' (fun k=>v.ownBlock=some k)→(v'.ownBlock=v.ownBlock∨ ∃k,v'.ownBlock=some k∧w.heap.size≤k)→ZL P n ops rest ((d,v')::e) w' Q):
  ZL P n ops (⟨some d,.call {callee:= .builtin .append,args:= #[s,x],argTypes:= #[t,t]},ty,pos,aft,g⟩::rest) e w Q:=by
 obtain ⟨v',w',hr,h1,h2,h3⟩:=append_run (P:=P) (n:=n) (d:=d) (ty:=ty) (pos:=pos) (aft:=aft) (g:=g) (t:=t) hzs hsz hs hx hown hnews h63 hby
 exact zl_run hw rfl hdn hr (h v' w' h1 h2 h3)
theorem zs_appendO {ks:List Nat} {S:World→Prop} {i:Nat} {r:Ord} {s x:Operand} {t el:TypeId} {sz k m m':Nat} {z v xv:Value} {xs news:List Value} [hu:Und P t (.slice el)] [hz:Inf P el sz k z] (hi:ops[i]? =some ⟨some d,.call {callee:= .builtin .append,args:= #[s,x],argTypes:= #[t,t]},ty,pos,aft,g⟩) (hzs:z.cells.size=sz) (hsz:0<sz) (hw:Want ops e g) (hdn:d<n)
  (hs:ev e s=some v) (hx:ev e x=some xv) (hown:Own w el sz v m xs) (hnews:RdS w el sz xv m' news) (h63:m+m'≤9223372036854775807) (hby:(m+m')*k≤140737488355328)
  (h: ∀v' w',Own w' el sz v' (m+m') (xs++news)→Chg w w' (fun k=>v.ownBlock=some k)→(v'.ownBlock=v.ownBlock∨ ∃k,v'.ownBlock=some k∧w.heap.size≤k)→S w'∧ZS P n ops ks S r ((d,v')::e) w' Q):
  ZS P n ops ks S (.all1 i r) e w Q:=by
 obtain ⟨v',w',hr,h1,h2,h3⟩:=append_run (P:=P) (n:=n) (d:=d) (ty:=ty) (pos:=pos) (aft:=aft) (g:=g) (t:=t) hzs hsz hs hx hown hnews h63 hby
 obtain ⟨h4,h5⟩:=h v' w' h1 h2 h3
 exact zs_run hi hw rfl hdn hr h4 h5
theorem zs_store {ks:List Nat} {S:World→Prop} {i:Nat} {r:Ord} {t:TypeId} {x y:Operand} {v:Value} {b o:Nat} {bt:TypeId} {cs:List Value} {s k:Nat} {z:Value} [hz:Inf P t s k z] (hi:ops[i]? =some ⟨none,.store t x y,ty,pos,aft,g⟩) (hw:Want ops e g) (hx:ev e x=some (.pointer (some ⟨b,o,none⟩))) (hy:ev e y=some v) (hs:v.cells.size=s) (hb:Blk w b bt cs)
  (hfit:o+s≤cs.length) (h1: ∀u∈v.cells.toList,u.oneCell'=true) (h: ∀w',Upd w w' b bt (lay cs o v.cells.toList)→S w'∧ZS P n ops ks S r e w' Q):ZS P n ops ks S (.all1 i r) e w Q:=by
 obtain ⟨h4,h5⟩:=h _ (Upd.setRow hb)
 exact zs_runU hi hw rfl (fun a ha=>by simp [execOp,ha.ev hx,ha.ev hy,run_storeAt hs hb hfit h1]) h4 h5
theorem zs_storeL {ks:List Nat} {S:World→Prop} {i:Nat} {t:TypeId} {x y:Operand} {v:Value} {b o:Nat} {bt:TypeId} {cs:List Value} {s k:Nat} {z:Value} [hz:Inf P t s k z] (hi:ops[i]? =some ⟨none,.store t x y,ty,pos,aft,g⟩) (hw:Want ops e g) (hx:ev e x=some (.pointer (some ⟨b,o,none⟩))) (hy:ev e y=some v) (hs:v.cells.size=s) (hb:Blk w b bt cs)
  (hfit:o+s≤cs.length) (h1: ∀u∈v.cells.toList,u.oneCell'=true) (h: ∀w',Upd w w' b bt (lay cs o v.cells.toList)→ZK n .normal e w' Q):ZS P n ops ks S (.last i) e w Q:=
 zs_runUL hi hw rfl (fun a ha=>by simp [execOp,ha.ev hx,ha.ev hy,run_storeAt hs hb hfit h1]) (h _ (Upd.setRow hb))
theorem zs_new {ks:List Nat} {S:World→Prop} {i:Nat} {o:Oper} {r:Ord} {t:TypeId} {cs:List Value} {v:Value} (hi:ops[i]? =some o) (hw:Want ops e o.guard) (hd:o.dst=some d) (hdn:d<n)
  (hr: ∀a,Ok n e a→(execOp a.eval o).run P w= .ok (.value v) {w with heap:=w.heap.push (.cells cs.toArray t)})
  (h: ∀w' b,b=w.heap.size→New w w' b t cs→S w'∧ZS P n ops ks S r ((d,v)::e) w' Q):ZS P n ops ks S (.all1 i r) e w Q:=by
 obtain ⟨h4,h5⟩:=h _ _ rfl (New.mk' w t cs)
 exact zs_run hi hw hd hdn hr h4 h5
end
open Go
section
variable {P : Program} {n : Nat} {e : Env} {w : World} {Q : Exit → Act → World → Prop} {ops : Array Oper} {rest : List Oper}
variable {d : Tmp} {ty : TypeId} {pos : String} {aft : Array Edge} {g : Option (Nat × Bool)}
theorem r_max {x y:Operand} {k:IntKind} {a b c:Int} {ats:Array TypeId} (hx:ev e x=some (.int k a)) (hy:ev e y=some (.int k b)) (hc:c=if b>a then b else a):Rd P n e w ⟨some d,.call {callee:= .builtin .max,args:= #[x,y],argTypes:=ats},ty,pos,aft,g⟩ (.int k c):=fun A hA=>by
 subst hc
 simp [execOp,resolve,invoke,builtin,hA.ev hx,hA.ev hy,Builtin.max_,Builtin.max2]
def evp (e:Env):List (Nat×Operand)→Option (List (Nat×Value))
 | []=>some []
 |(i,x)::r=>match ev e x,evp e r with|some v,some vs=>some ((i,v)::vs)|_,_=>none
theorem evp_map {A:Act} (hA:Ok n e A): ∀{l:List (Nat×Operand)} {vs:List (Nat×Value)},evp e l=some vs→l.map (fun (i,x)=>(i,A.eval x))=vs
 | [],vs,h=>by simp [evp] at h;simp [h]
 |(i,x)::r,vs,h=>by
  simp only [evp] at h
  split at h
  ·rename_i v vs' h1 h2;cases h
   have:=evp_map hA h2
   simp only [List.map_cons,hA.ev h1,this]
  ·cases h
theorem r_build' {t:TypeId} {parts:List (Nat×Operand)} {pv:List (Nat×Value)} {cells:Array Value} (hp:evp e parts=some pv) (hb:P.built t pv=some cells):Rd P n e w ⟨some d,.build t parts.toArray,ty,pos,aft,g⟩ (.agg cells):=
 r_build (pv:=pv.toArray) (fun A hA=>by simp only [List.map_toArray,evp_map hA hp]) (by simpa using hb)
theorem fill_one {s:Nat} {zs:Array Value} {v:Value} (h1:zs.size=s) (h2:v.cells.size=s):Instr.fill (fun i=>some (i*s,s)) zs [(0,v)]=some v.cells:=by
 have key: ∀(l:List Value) (k:Nat) (acc:Array Value),k+l.length=acc.size→(l.zipIdx k).foldl (fun cs (p:Value×Nat)=>cs.setIfInBounds (0+p.2) p.1) acc=(acc.toList.take k++l).toArray:=by
  intro l
  induction l with
  |nil=>intro k acc h;simp at h;simp [h,←Array.length_toList]
  |cons u l ih=>
   intro k acc h
   simp only [List.length_cons] at h
   simp only [List.zipIdx_cons,List.foldl_cons]
   rw [ih (k+1) _ (by simp;omega)]
   congr 1
   simp only [Nat.zero_add,Array.toList_setIfInBounds]
   rw [List.take_add_one,List.take_set_of_le (Nat.le_refl k),List.getElem?_set_self (by simp;omega)]
   simp
 have hk:=key v.cells.toList 0 zs (by simp [h1,h2])
 unfold Instr.fill
 simp only [Nat.zero_mul,Nat.zero_add]
 rw [if_neg (by simp [h1,h2])]
 unfold Instr.fill
 congr 1
 rw [←Array.foldl_toList]
 simp only [Array.toList_zipIdx]
 simpa using hk
theorem run_bs1 {t el:TypeId} {s k:Nat} {z v:Value} {x:Operand} [hu:Und P t (.slice el)] [hz:Inf P el s k z] (hx:ev e x=some v) (hzs:z.cells.size=s) (hs:v.cells.size=s) (hpos:s≠0) (hsm:s≤16777216):
  ∀a,Ok n e a→(execOp a.eval (⟨some d,.buildSlice t 1 #[(0,x)],ty,pos,aft,g⟩:Oper)).run P w= .ok (.value (.slice (some ⟨w.heap.size,0,none⟩) 1 1)) {w with heap:=w.heap.push (.cells v.cells.toList.toArray el)}:=fun A hA=>by
 have h2: ¬(1*s>2 ^ 24):=by omega
 simp only [execOp,Sem.run_bind,List.map_toArray,List.map_cons,List.map_nil,hA.ev hx]
 simp only [Instr.buildSlice,Sem.run_bind,run_underlying hu.eq,Result.andThen_ok,hz.size w]
 rw [if_neg h2,if_neg (by omega)]
 simp only [pure_bind,Sem.run_bind,hz.zero w,Result.andThen_ok,Sem.run_pure]
 rw [fill_one (by simp) hs]
 simp [newRow]
theorem z_bs1 {t el:TypeId} {s k:Nat} {z v:Value} {x:Operand} [hu:Und P t (.slice el)] [hz:Inf P el s k z] (hw:Want ops e g) (hdn:d<n) (hx:ev e x=some v) (hzs:z.cells.size=s) (hs:v.cells.size=s) (hpos:s≠0) (hsm:s≤16777216)
  (h: ∀w' b,New w w' b el v.cells.toList→ZL P n ops rest ((d,.slice (some ⟨b,0,none⟩) 1 1)::e) w' Q):ZL P n ops (⟨some d,.buildSlice t 1 #[(0,x)],ty,pos,aft,g⟩::rest) e w Q:=
 zl_run hw rfl hdn (run_bs1 hx hzs hs hpos hsm) (h _ _ (New.mk' w el _))
theorem zs_bs1 {ks:List Nat} {S:World→Prop} {i:Nat} {r:Ord} {t el:TypeId} {s k:Nat} {z v:Value} {x:Operand} [hu:Und P t (.slice el)] [hz:Inf P el s k z] (hi:ops[i]? =some ⟨some d,.buildSlice t 1 #[(0,x)],ty,pos,aft,g⟩) (hw:Want ops e g) (hdn:d<n) (hx:ev e x=some v) (hzs:z.cells.size=s) (hs:v.cells.size=s) (hpos:s≠0) (hsm:s≤16777216)
  (h: ∀w' b,New w w' b el v.cells.toList→S w'∧ZS P n ops ks S r ((d,.slice (some ⟨b,0,none⟩) 1 1)::e) w' Q):ZS P n ops ks S (.all1 i r) e w Q:=
 zs_new (t:=el) (cs:=v.cells.toList) (v:= .slice (some ⟨w.heap.size,0,none⟩) 1 1) hi hw rfl hdn (run_bs1 hx hzs hs hpos hsm) (fun w' b hb hn=>by subst hb;exact h w' _ hn)
theorem zs_alloc {ks:List Nat} {S:World→Prop} {i:Nat} {r:Ord} {t:TypeId} {s k:Nat} {z:Value} [hz:Inf P t s k z] (hi:ops[i]? =some ⟨some d,.alloc t,ty,pos,aft,g⟩) (hw:Want ops e g) (hdn:d<n)
  (h: ∀w' b,New w w' b t z.cells.toList→S w'∧ZS P n ops ks S r ((d,.pointer (some ⟨b,0,none⟩))::e) w' Q):ZS P n ops ks S (.all1 i r) e w Q:=
 zs_new (t:=t) (cs:=z.cells.toList) (v:= .pointer (some ⟨w.heap.size,0,none⟩)) hi hw rfl hdn (fun a ha=>by simp [execOp,Instr.alloc,hz.zero w,newVar,newRow]) (fun w' b hb hn=>by subst hb;exact h w' _ hn)
theorem zk_retC {x:Exit} (hx:x= .normal∨x= .ret) {fn:Func} {R:Ending→World→Prop} {t:Tmp} {u bt:TypeId} {b sz k:Nat} {z:Value} {cs:List Value} [hA:IsA P u true] [hz:Inf P u sz k z] (hr:fn.results= #[.cell t u]) (hv:Env.get e t=some (.pointer (some ⟨b,0,none⟩))) (hb:Blk w b bt cs) (hl:cs.length=sz)
  (h:R (.returned (.agg cs.toArray)) w):ZK n x e w (bodyPost P fn R):=
 zk_retR hx (v:= .agg cs.toArray) (fun a ha=>by
  have h1:a.tmps.getD t undef= .pointer (some ⟨b,0,none⟩):=by rw [Array.getD_eq_getD_getElem?,ha.at_ t _ hv];rfl
  have h2:(loadVar u ⟨b,0,none⟩).run P w= .ok (.agg cs.toArray) w:=by
   simp only [loadVar,Sem.run_bind,hA.run w,Result.andThen_ok,if_true,hz.size w,←hl,run_loadCells_list (P:=P) w ⟨b,0,none⟩ cs (fun j u hj=>by rw [addr_add,Nat.zero_add,hb.cell j];exact hj),Sem.run_pure]
  simp only [Array.getD_eq_getD_getElem?] at h1
  simp [results,hr,h1,asAddr,h2]) h
theorem zk_retCT {x:Exit} (hx:x= .normal∨x= .ret) {fn:Func} {R:Ending→World→Prop} {t t2:Tmp} {u bt:TypeId} {b sz k:Nat} {z v2:Value} {cs:List Value} [hA:IsA P u true] [hz:Inf P u sz k z] (hr:fn.results= #[.cell t u,.tmp t2]) (hv:Env.get e t=some (.pointer (some ⟨b,0,none⟩))) (hv2:Env.get e t2=some v2) (hb:Blk w b bt cs) (hl:cs.length=sz)
  (h:R (.returned (.tuple #[.agg cs.toArray,v2])) w):ZK n x e w (bodyPost P fn R):=
 zk_retR hx (v:= .tuple #[.agg cs.toArray,v2]) (fun a ha=>by
  have h1:a.tmps.getD t undef= .pointer (some ⟨b,0,none⟩):=by rw [Array.getD_eq_getD_getElem?,ha.at_ t _ hv];rfl
  have h3:a.tmps.getD t2 undef=v2:=by rw [Array.getD_eq_getD_getElem?,ha.at_ t2 _ hv2];rfl
  have h2:(loadVar u ⟨b,0,none⟩).run P w= .ok (.agg cs.toArray) w:=by
   simp only [loadVar,Sem.run_bind,hA.run w,Result.andThen_ok,if_true,hz.size w,←hl,run_loadCells_list (P:=P) w ⟨b,0,none⟩ cs (fun j u hj=>by rw [addr_add,Nat.zero_add,hb.cell j];exact hj),Sem.run_pure]
  simp only [Array.getD_eq_getD_getElem?] at h1 h3
  simp [results,hr,h1,h3,asAddr,h2]) h
end
open Go
theorem cell_at {w:World} {b o o':Nat} {v:Value} (h:w.cell? ⟨b,o',none⟩=some v) (he:o=o'):w.cell? ⟨b,o,none⟩=some v:=by rw [he];exact h
theorem agg2 {w:World} {b o o':Nat} {v0 v1:Value} (h0:w.cell? ⟨b,o',none⟩=some v0) (h1:w.cell? ⟨b,o'+1,none⟩=some v1) (he:o=o'): ∀j u,[v0,v1][j]? =some u→w.cell? ((⟨b,o,none⟩:Addr).add j)=some u:=by
 subst he;intro j u hj;rw [addr_add]
 match j,hj with
 |0,hj=>simp at hj;subst hj;exact h0
 |1,hj=>simp at hj;subst hj;exact h1
open Go
section
variable {P : Program} {n : Nat} {e : Env} {w : World} {Q : Exit → Act → World → Prop}
theorem zc_loopW {ι:Type} (E:ι→World→Env) (I:ι→World→Prop) (m:ι→World→Nat) {c:Code} (i0:ι) (h0:I i0 w) (hE:Sub (E i0 w) e)
  (round: ∀i u,I i u→ZC P n c (E i u) u (Exit.then (fun a w'=> ∃j,I j w'∧m j w'<m i u∧Ok n (E j w') a) Q)):ZC P n (.loop c) e w Q:=
 zc_loop (ι:=ι×World) (fun x=>E x.1 x.2) (fun x=>x.2) (fun x=>I x.1 x.2) (fun x=>m x.1 x.2) (i0,w) h0 rfl hE (fun x hx=>by
  have:=round x.1 x.2 hx
  intro a ha
  refine wp_mono (this a ha) ?_
  intro y a' w' hq
  cases y with
  |normal=>obtain ⟨j,h1,h2,h3⟩:=hq;exact ⟨(j,w'),h1,h2,rfl,h3⟩
  |exit id=>exact hq
  |goto l=>exact hq
  |ret=>exact hq
  |panic ch=>exact hq
  |outgrown=>exact hq)
theorem zk_loopW {ι:Type} {E:ι→World→Env} {I:ι→World→Prop} {m:ι→World→Nat} {k:Nat} (j:ι) (hI:I j w) (hm:m j w<k) (hE:Sub (E j w) e):
  ZK n .normal e w (Exit.then (fun a w'=> ∃j,I j w'∧m j w'<k∧Ok n (E j w') a) Q):=fun a ha=>⟨j,hI,hm,ha.sub hE⟩
end
theorem New.ge {w w1 w2:World} {S:Nat→Prop} {b:Nat} {t:TypeId} {cs:List Value} (h:New w1 w2 b t cs) (hc:Chg w w1 S):w.heap.size≤b:=by rw [h.at_];exact hc.size
theorem Chg.upd {w w1 w2:World} {S:Nat→Prop} {b:Nat} {t:TypeId} {cs:List Value} (hc:Chg w w1 S) (h:Upd w1 w2 b t cs) (hb:w.heap.size≤b):Chg w w2 S:=hc.trans h.chg (fun i hi he=>by subst he;omega)
theorem Chg.updS {w w1 w2:World} {S:Nat→Prop} {b:Nat} {t:TypeId} {cs:List Value} (hc:Chg w w1 S) (h:Upd w1 w2 b t cs) (hb:w.heap.size≤b∨S b):Chg w w2 S:=hc.trans h.chg (fun i hi he=>by subst he;exact hb.resolve_left (by omega))
open Go
section
variable {P : Program} {n : Nat} {e : Env} {w : World} {Q : Exit → Act → World → Prop} {ops : Array Oper} {rest : List Oper}
variable {d : Tmp} {ty : TypeId} {pos : String} {aft : Array Edge} {g : Option (Nat × Bool)}
end
open Go
section
variable {P : Program} {n : Nat} {e : Env} {w : World} {Q : Exit → Act → World → Prop} {ops : Array Oper} {rest : List Oper}
variable {d : Tmp} {ty : TypeId} {pos : String} {aft : Array Edge} {g : Option (Nat × Bool)}
theorem z_buildE {t:TypeId} {parts:List (Nat×Operand)} {pv:List (Nat×Value)} (cells:Array Value) (hw:Want ops e g) (hdn:d<n) (hp:evp e parts=some pv) (hb:P.built t pv=some cells) (h:ZL P n ops rest ((d,.agg cells)::e) w Q):ZL P n ops (⟨some d,.build t parts.toArray,ty,pos,aft,g⟩::rest) e w Q:=
 zl_run hw rfl hdn (r_build' hp hb) h
end
open Go
section
variable {P : Program} {w : World} {d : Nat} {xs ys : Array Value}
theorem part1 {t o:Nat} {v:Value} [hA:IsA P t false] (h:xs[o]? =some v):(part t xs o).run P w= .ok v w:=by
 simp [part,hA.run w,h]
theorem eqF_nil:(Op.eqFields d xs ys []).run P w= .ok true w:=by simp [Op.eqFields]
theorem eqF_cons {f:Field} {fs:List Field} {a b:Value} {r s:Bool} (hn:(f.name== "_")=false) (ha:(part f.type xs f.offset).run P w= .ok a w) (hb:(part f.type ys f.offset).run P w= .ok b w) (he:(Op.equalIn d f.type a b).run P w= .ok r w)
  (hr:(Op.eqFields d xs ys fs).run P w= .ok s w):(Op.eqFields d xs ys (f::fs)).run P w= .ok (r && s) w:=by
 have hn':f.name≠ "_" :=by simpa using hn
 simp only [Op.eqFields,if_pos hn',Sem.run_bind,ha,hb,he,Result.andThen_ok]
 cases r
 ·simp
 ·simpa using hr
theorem eq_str {t:TypeId} {a b:ByteArray} [h:Und P t .string]:(Op.equalIn (d+1) t (.string a) (.string b)).run P w= .ok (decide (a=b)) w:=by
 rw [run_equalIn_string w d t a b h.eq,ba_eq]
theorem eq_struct {t:TypeId} {fs:Array Field} {r:Bool} (hu:P.underlying t=some (.struct fs)) (hp:P.stoodInHeld t=false) (h:(Op.eqFields d xs ys fs.toList).run P w= .ok r w):(Op.equalIn (d+1) t (.agg xs) (.agg ys)).run P w= .ok r w:=by
 have hf:P.fieldsOf t=fs:=by simp [Program.fieldsOf,hu]
 rw [run_equalIn_struct (P:=P) w d t xs ys (by rw [hf];exact hu) hp,hf]
 exact h
variable {n : Nat} {e : Env} {Q : Exit → Act → World → Prop} {ops : Array Oper} {rest : List Oper} {dd : Tmp} {ty : TypeId} {pos : String} {aft : Array Edge} {g : Option (Nat × Bool)}
theorem r_eqA {x y:Operand} {xt yt:TypeId} {r:Bool} (hx:ev e x=some (.agg xs)) (hy:ev e y=some (.agg ys)) (hg:P.eqGuardType P.depth xt=false) (h: ∀d,(Op.equalIn (d+5) xt (.agg xs) (.agg ys)).run P w= .ok r w):
  Rd P n e w ⟨some dd,.binOp .eql xt x y yt,ty,pos,aft,g⟩ (.bool r):=fun a ha=>by
 have h1:=run_eqGuard_agg (P:=P) w .eql xt x y xs ys hg
 have h2:=run_eql_struct (P:=P) w xt xs ys
 have h3:(Op.equalIn 10000 xt (.agg xs) (.agg ys)).run P w= .ok r w:=h 9995
 simp only [execOp,ha.ev hx,ha.ev hy,Sem.run_bind,h1,Result.andThen_ok,h2,h3,Sem.run_pure]
end
open Go
section
variable {P : Program} {n : Nat} {e : Env} {w : World} {Q : Exit → Act → World → Prop} {ops : Array Oper} {rest : List Oper}
variable {d : Tmp} {ty : TypeId} {pos : String} {aft : Array Edge} {g : Option (Nat × Bool)}
def cutA (A:Option Addr) (c k s:Nat):Option Addr:=if c=k then A else A.map (·.add (k*s))
def Flat (A:Option Addr):Prop:=A=none∨ ∃b o,A=some ⟨b,o,none⟩
theorem Flat.cut0 {A:Option Addr} (h:Flat A) (c s:Nat):cutA A c 0 s=A:=by
 unfold cutA
 rcases h with rfl|⟨b,o,rfl⟩<;>simp [addr_add]
theorem cutA_at {b o c k s:Nat} (h:k<c):cutA (some ⟨b,o,none⟩) c k s=some ⟨b,o+k*s,none⟩:=by
 unfold cutA;rw [if_neg (by omega)];simp [addr_add]
theorem Own.flat {t sz m c:Nat} {A:Option Addr} {cs:List Value} (h:Own w t sz (.slice A m c) m cs):Flat A:=by
 obtain ⟨_,h2⟩:=h.cases
 rcases h2 with ⟨hv,_⟩|⟨b,cap,junk,hv,_⟩
 ·cases hv;exact .inl rfl
 ·cases hv;exact .inr ⟨b,0,rfl⟩
theorem r_cutFrom {B:Option Addr} {m c s j k:Nat} {z:Value} {x:Operand} {lo:Option Operand} {t el:TypeId} [hu:Und P t (.slice el)] [hz:Inf P el s j z] (hx:ev e x=some (.slice B m c)) (hl:optI lo e 0=some (k:Int)) (hk:k≤m) (hc:m≤c):
  Rd P n e w ⟨some d,.slice t x lo none none,ty,pos,aft,g⟩ (.slice (cutA B c k s) (m - k) (c - k)):=by
 have:=r_cut (P:=P) (n:=n) (e:=e) (w:=w) (d:=d) (ty:=ty) (pos:=pos) (aft:=aft) (g:=g) (t:=t) (hi:=none) (r:=m) hx hl rfl (by omega) (by omega) (by omega)
 simpa [cutA] using this
theorem r_cutTo {B:Option Addr} {m c s j k:Nat} {z:Value} {x:Operand} {hi:Option Operand} {t el:TypeId} [hu:Und P t (.slice el)] [hz:Inf P el s j z] (hB:Flat B) (hx:ev e x=some (.slice B m c)) (hh:optI hi e m=some (k:Int)) (hc:k≤c):
  Rd P n e w ⟨some d,.slice t x none hi none,ty,pos,aft,g⟩ (.slice B k c):=by
 have:=r_cut (P:=P) (n:=n) (e:=e) (w:=w) (d:=d) (ty:=ty) (pos:=pos) (aft:=aft) (g:=g) (t:=t) (lo:=none) (l:=0) hx rfl hh (by omega) (by omega) (by omega)
 have h0:=hB.cut0 c s
 unfold cutA at h0
 simp only [Nat.zero_mul] at h0
 simpa [h0] using this
theorem RdS.cut {t sz m c k:Nat} {A:Option Addr} {cs:List Value} (h:RdS w t sz (.slice A m c) m cs) (hk:k≤m):RdS w t sz (.slice (cutA A c k sz) (m - k) (c - k)) (m - k) (cs.drop (k*sz)):=by
 obtain ⟨h1,h2,A',c',h3,h4,h5⟩:=h
 cases h3
 refine ⟨by rw [List.length_drop,h1,Nat.sub_mul],fun u hu=>h2 u (List.mem_of_mem_drop hu),_,_,rfl,by omega,fun hm=> ?_⟩
 obtain ⟨b,o,cells,rfl,h7,h8⟩:=h5 (by omega)
 refine ⟨b,o+k*sz,cells,cutA_at (by omega),h7,fun j u hj=> ?_⟩
 rw [List.getElem?_drop] at hj
 rw [Nat.add_assoc]
 exact h8 _ _ hj
end
open Go
section
variable {P : Program} {n : Nat} {e : Env} {w : World} {Q : Exit → Act → World → Prop}
theorem zk_mid {M:World→Prop} {e':Env} (hM:M w) (hs:Sub e' e):ZK n .normal e w (Exit.then (fun a w'=>M w'∧Ok n e' a) Q):=fun a ha=>⟨hM,ha.sub hs⟩
end
open Go
section
variable {P : Program} {n : Nat} {e : Env} {w : World} {Q : Exit → Act → World → Prop} {ops : Array Oper} {rest : List Oper}
variable {d : Tmp} {ty : TypeId} {pos : String} {aft : Array Edge} {g : Option (Nat × Bool)}
theorem z_bsE {t el:TypeId} {len s k:Nat} {z:Value} {parts:List (Nat×Operand)} {pv:List (Nat×Value)} (cells:List Value) [hu:Und P t (.slice el)] [hz:Inf P el s k z] (hw:Want ops e g) (hdn:d<n) (hp:evp e parts=some pv)
  (hsm:len*s≤16777216) (hpos:len*s≠0) (hf:Instr.fill (fun i=>some (i*s,s)) ((Array.range (len*s)).map (z.cells[· %z.cells.size]!)) pv=some cells.toArray)
  (h: ∀w' b,New w w' b el cells→ZL P n ops rest ((d,.slice (some ⟨b,0,none⟩) len len)::e) w' Q):ZL P n ops (⟨some d,.buildSlice t len parts.toArray,ty,pos,aft,g⟩::rest) e w Q:=
 z_bs (pv:=pv.toArray) (fun A hA=>by simp only [List.map_toArray,evp_map hA hp]) hsm hpos (by simpa using hf) hw hdn h
end
open Go
def nth:List Oper→Nat→Option Oper
 | [],_=>none
 |o::_,0=>some o
 |_::l,i+1=>nth l i
theorem nth_get: ∀(l:List Oper) (i:Nat),nth l i=l.toArray[i]?
 | [],i=>by simp [nth]
 |o::l,0=>by simp [nth]
 |o::l,i+1=>by simpa [nth] using nth_get l i
def wantL (l:List Oper) (e:Env):Option (Nat×Bool)→Option Bool
 |none=>some true
 |some (j,b)=>match (nth l j).bind (·.dst) with
  |some t=>match Env.get e t with
   |some (.bool true)=>some b
   |some (.bool false)=>some (!b)
   |some (.tuple _)=>some false
   |_=>none
  |none=>none
theorem wantL_eq (l:List Oper) (e:Env) (g:Option (Nat×Bool)):wantL l e g=wantB l.toArray e g:=by
 cases g with
 |none=>rfl
 |some jb=>obtain ⟨j,b⟩:=jb;unfold wantL wantB;simp only [nth_get]
theorem want_L {l:List Oper} {e:Env} {g:Option (Nat×Bool)} (h:wantL l e g=some true):Want l.toArray e g:=wantB_yes (by rw [←wantL_eq];exact h)
def stepL (n:Nat) (l:List Oper) (e:Env) (o:Oper):Option (Tmp×Value):=
 match o.dst with
 |some d=>match Nat.blt d n with
  |true=>match wantL l e o.guard with
   |some true=>match pv e o.op with|some v=>some (d,v)|none=>none
   |some false=>some (d,undef)
   |none=>none
  |false=>none
 |none=>none
theorem stepL_eq (n:Nat) (l:List Oper) (e:Env) (o:Oper):stepL n l e o=stepP n l.toArray e o:=by
 unfold stepL stepP;rw [wantL_eq]
def skipL (n:Nat) (l:List Oper) (e:Env) (o:Oper):Option Tmp:=
 match o.dst with
 |some d=>match Nat.blt d n with
  |true=>match wantL l e o.guard with
   |some false=>some d
   |_=>none
  |false=>none
 |none=>none
theorem skipL_step {n:Nat} {l:List Oper} {e:Env} {o:Oper} {d:Tmp} (h:skipL n l e o=some d):stepP n l.toArray e o=some (d,undef):=by
 rw [←stepL_eq]
 unfold skipL at h
 unfold stepL
 split at h
 ·split at h
  ·split at h
   ·rename_i hb hw;cases h;simp [*]
   ·cases h
  ·cases h
 ·cases h
section
variable {P : Program} {n : Nat} {e : Env} {w : World} {Q : Exit → Act → World → Prop} {l rest : List Oper} {ks : List Nat} {S : World → Prop}
theorem zP {o:Oper} {d:Tmp} {v:Value} (hs:stepL n l e o=some (d,v)) (h:ZL P n l.toArray rest ((d,v)::e) w Q):ZL P n l.toArray (o::rest) e w Q:=zl_pure (by rw [←stepL_eq];exact hs) h
theorem zJ {o:Oper} {d:Tmp} (hs:skipL n l e o=some d) (h:ZL P n l.toArray rest ((d,undef)::e) w Q):ZL P n l.toArray (o::rest) e w Q:=zl_pure (skipL_step hs) h
def ZT (P:Program) (n:Nat) (l:List Oper) (ks:List Nat) (S:World→Prop) (i:Nat) (r:Ord) (o:Oper) (e:Env) (w:World) (Q:Exit→Act→World→Prop):Prop:=nth l i=some o→ZS P n l.toArray ks S (.take i r) e w Q
def ZA (P:Program) (n:Nat) (l:List Oper) (ks:List Nat) (S:World→Prop) (i:Nat) (r:Ord) (o:Oper) (e:Env) (w:World) (Q:Exit→Act→World→Prop):Prop:=nth l i=some o→ZS P n l.toArray ks S (.all1 i r) e w Q
theorem zs_take {i:Nat} {r:Ord} {o:Oper} (hi:nth l i=some o) (h:ZT P n l ks S i r o e w Q):ZS P n l.toArray ks S (.take i r) e w Q:=h hi
theorem zs_alone {i:Nat} {r:Ord} {o:Oper} (hi:nth l i=some o) (h:ZA P n l ks S i r o e w Q):ZS P n l.toArray ks S (.all1 i r) e w Q:=h hi
theorem zs_rdL {i:Nat} {o:Oper} {d:Tmp} {v:Value} {r:Ord} (hi:nth l i=some o) (hw:Want l.toArray e o.guard) (hd:o.dst=some d) (hdn:d<n) (hr: ∀w',S w'→Rd P n e w' o v)
  (h:ZS P n l.toArray ks S r ((d,v)::e) w Q):ZS P n l.toArray ks S (.take i r) e w Q:=zs_rd (by rw [←nth_get];exact hi) hw hd hdn hr h
theorem zt_rd {i:Nat} {o:Oper} {d:Tmp} {v:Value} {r:Ord} (hw:Want l.toArray e o.guard) (hd:o.dst=some d) (hdn:d<n) (hr: ∀w',S w'→Rd P n e w' o v)
  (h:ZS P n l.toArray ks S r ((d,v)::e) w Q):ZT P n l ks S i r o e w Q:=fun hi=>zs_rdL hi hw hd hdn hr h
theorem zt_pure {i:Nat} {o:Oper} {d:Tmp} {v:Value} {r:Ord} (hs:stepL n l e o=some (d,v)) (h:ZS P n l.toArray ks S r ((d,v)::e) w Q):ZT P n l ks S i r o e w Q:=fun hi=>zs_pure (by rw [←nth_get];exact hi) (by rw [←stepL_eq];exact hs) h
theorem zt_skip {i:Nat} {o:Oper} {d:Tmp} {r:Ord} (hs:skipL n l e o=some d) (h:ZS P n l.toArray ks S r ((d,undef)::e) w Q):ZT P n l ks S i r o e w Q:=fun hi=>zs_pure (by rw [←nth_get];exact hi) (skipL_step hs) h
theorem za_pure {i:Nat} {o:Oper} {d:Tmp} {v:Value} {r:Ord} (hs:stepL n l e o=some (d,v)) (h:ZS P n l.toArray ks S r ((d,v)::e) w Q):ZA P n l ks S i r o e w Q:=fun hi=>zs_pure1 (by rw [←nth_get];exact hi) (by rw [←stepL_eq];exact hs) h
theorem za_skip {i:Nat} {o:Oper} {d:Tmp} {r:Ord} (hs:skipL n l e o=some d) (h:ZS P n l.toArray ks S r ((d,undef)::e) w Q):ZA P n l ks S i r o e w Q:=fun hi=>zs_pure1 (by rw [←nth_get];exact hi) (skipL_step hs) h
theorem zs_plainL {i:Nat} {o:Oper} {d:Tmp} {v:Value} {r:Ord} (hi:nth l i=some o) (hs:stepL n l e o=some (d,v)) (h:ZS P n l.toArray ks S r ((d,v)::e) w Q):ZS P n l.toArray ks S (.plain i r) e w Q:=zs_pureP (by rw [←nth_get];exact hi) (by rw [←stepL_eq];exact hs) h
end
open Go
section
variable {P : Program} {n : Nat} {e : Env} {w : World} {Q : Exit → Act → World → Prop} {ops : Array Oper} {rest : List Oper}
variable {d : Tmp} {ty : TypeId} {pos : String} {aft : Array Edge} {g : Option (Nat × Bool)} {x y : Operand}
theorem r_neA {xs ys:Array Value} {xt yt:TypeId} {r:Bool} (hx:ev e x=some (.agg xs)) (hy:ev e y=some (.agg ys)) (hg:P.eqGuardType P.depth xt=false) (h: ∀d,(Op.equalIn (d+5) xt (.agg xs) (.agg ys)).run P w= .ok r w):
  Rd P n e w ⟨some d,.binOp .neq xt x y yt,ty,pos,aft,g⟩ (.bool (!r)):=fun a ha=>by
 have h1:=run_eqGuard_agg (P:=P) w .neq xt x y xs ys hg
 have h2:=run_neq_struct (P:=P) w xt xs ys
 have h3:(Op.equalIn 10000 xt (.agg xs) (.agg ys)).run P w= .ok r w:=h 9995
 simp only [execOp,ha.ev hx,ha.ev hy,Sem.run_bind,h1,Result.andThen_ok,h2,h3,Sem.run_pure]
theorem r_convI {src dst:TypeId} {k k':IntKind} {i j:Int} {u:TypeDesc} [hs:Und P src u] [hd:Und P dst (.int k')] (hx:ev e x=some (.int k i)) (hj:k'.wrap i=j):
  Rd P n e w ⟨some d,.convert src dst x,ty,pos,aft,g⟩ (.int k' j):=fun a ha=>by
 subst hj
 simp [execOp,ha.ev hx,convert,run_underlying hs.eq,run_underlying hd.eq,Conv.intToInt]
theorem z_convI {src dst:TypeId} {k k':IntKind} {i j:Int} {u:TypeDesc} [hs:Und P src u] [hd:Und P dst (.int k')] (hw:Want ops e g) (hdn:d<n) (hx:ev e x=some (.int k i)) (hj:k'.wrap i=j)
  (h:ZL P n ops rest ((d,.int k' j)::e) w Q):ZL P n ops (⟨some d,.convert src dst x,ty,pos,aft,g⟩::rest) e w Q:=zl_run hw rfl hdn (r_convI hx hj) h
theorem r_convS {src dst:TypeId} {k:IntKind} {i:Int} {u:TypeDesc} [hs:Und P src u] [hd:Und P dst .string] (hx:ev e x=some (.int k i)):
  Rd P n e w ⟨some d,.convert src dst x,ty,pos,aft,g⟩ (.string (Utf8.encode i)):=fun a ha=>by
 simp [execOp,ha.ev hx,convert,run_underlying hs.eq,run_underlying hd.eq,Conv.intToString]
theorem z_convS {src dst:TypeId} {k:IntKind} {i:Int} {u:TypeDesc} [hs:Und P src u] [hd:Und P dst .string] (hw:Want ops e g) (hdn:d<n) (hx:ev e x=some (.int k i))
  (h:ZL P n ops rest ((d,.string (Utf8.encode i))::e) w Q):ZL P n ops (⟨some d,.convert src dst x,ty,pos,aft,g⟩::rest) e w Q:=zl_run hw rfl hdn (r_convS hx) h
theorem encode_low {i:Int} (h0:0≤i) (h1:i<128):Utf8.encode i=⟨#[UInt8.ofNat i.toNat]⟩:=by
 have hv:Utf8.valid i=true:=by unfold Utf8.valid;simp;omega
 unfold Utf8.encode
 simp only [hv,if_true,show i.toNat<128 by omega]
end
open Go
def bs (l:List UInt8):ByteArray:=⟨l.toArray⟩
theorem bs_size (l:List UInt8):(bs l).size=l.length:=by simp [bs,ByteArray.size]
theorem bs_inj {l r:List UInt8}:bs l=bs r↔l=r:=by simp [bs]
theorem bs_app (l r:List UInt8):bs l++bs r=bs (l++r):=by
 apply ByteArray.ext;simp [bs]
theorem bs_cut (l:List UInt8) (a b:Nat):(bs l).extract a b=bs ((l.drop a).take (b - a)):=by
 apply ByteArray.ext
 simp [bs,List.extract_eq_take_drop]
theorem bs_get (l:List UInt8) (i:Nat) (h:i<(bs l).size):(bs l)[i]=l.getD i 0:=by
 have h':i<l.length:=by rwa [bs_size] at h
 rw [List.getD_eq_getElem?_getD,List.getElem?_eq_getElem h']
 rfl
def byteL (l:List UInt8) (j:Nat):Nat:=(l.getD j 0).toNat
section
variable {P : Program} {n : Nat} {e : Env} {w : World} {Q : Exit → Act → World → Prop} {ops : Array Oper} {rest : List Oper}
variable {d : Tmp} {ty : TypeId} {pos : String} {aft : Array Edge} {g : Option (Nat × Bool)} {x y : Operand} {xt yt : TypeId}
theorem r_lenL {l:List UInt8} {t:TypeId} [hu:Und P t .string] (hx:ev e x=some (.string (bs l))):Rd P n e w ⟨some d,.call {callee:= .builtin .len,args:= #[x],argTypes:= #[t]},ty,pos,aft,g⟩ (.int .i64 l.length):=by
 have:=r_lenS (P:=P) (n:=n) (w:=w) (d:=d) (ty:=ty) (pos:=pos) (aft:=aft) (g:=g) (t:=t) hx
 rwa [bs_size] at this
theorem z_lenL {l:List UInt8} {t:TypeId} [hu:Und P t .string] (hw:Want ops e g) (hdn:d<n) (hx:ev e x=some (.string (bs l))) (h:ZL P n ops rest ((d,.int .i64 l.length)::e) w Q):
  ZL P n ops (⟨some d,.call {callee:= .builtin .len,args:= #[x],argTypes:= #[t]},ty,pos,aft,g⟩::rest) e w Q:=zl_run hw rfl hdn (r_lenL hx) h
theorem r_idxL {l:List UInt8} {k:IntKind} {i:Int} {t:TypeId} [hu:Und P t .string] (hx:ev e x=some (.string (bs l))) (hy:ev e y=some (.int k i)) (h0:0≤i) (h1:i<l.length):
  Rd P n e w ⟨some d,.index t x y,ty,pos,aft,g⟩ (.int .u8 (l.getD i.toNat 0).toNat):=by
 have:=r_idxS (P:=P) (n:=n) (w:=w) (d:=d) (ty:=ty) (pos:=pos) (aft:=aft) (g:=g) (t:=t) hx hy h0 (by rw [bs_size];omega)
 rwa [bs_get] at this
theorem z_idxL {l:List UInt8} {k:IntKind} {i:Int} {t:TypeId} [hu:Und P t .string] (hw:Want ops e g) (hdn:d<n) (hx:ev e x=some (.string (bs l))) (hy:ev e y=some (.int k i)) (h0:0≤i) (h1:i<l.length)
  (h:ZL P n ops rest ((d,.int .u8 (l.getD i.toNat 0).toNat)::e) w Q):ZL P n ops (⟨some d,.index t x y,ty,pos,aft,g⟩::rest) e w Q:=zl_run hw rfl hdn (r_idxL hx hy h0 h1) h
theorem r_idxN {l:List UInt8} {k:IntKind} {j:Nat} {t:TypeId} [hu:Und P t .string] (hx:ev e x=some (.string (bs l))) (hy:ev e y=some (.int k ((j:Nat):Int))) (h1:j<l.length):
  Rd P n e w ⟨some d,.index t x y,ty,pos,aft,g⟩ (.int .u8 (byteL l j)):=by
 have:=r_idxL (P:=P) (n:=n) (w:=w) (d:=d) (ty:=ty) (pos:=pos) (aft:=aft) (g:=g) (t:=t) hx hy (by omega) (by omega)
 exact this
theorem z_idxN {l:List UInt8} {k:IntKind} {j:Nat} {t:TypeId} [hu:Und P t .string] (hw:Want ops e g) (hdn:d<n) (hx:ev e x=some (.string (bs l))) (hy:ev e y=some (.int k ((j:Nat):Int))) (h1:j<l.length)
  (h:ZL P n ops rest ((d,.int .u8 (byteL l j))::e) w Q):ZL P n ops (⟨some d,.index t x y,ty,pos,aft,g⟩::rest) e w Q:=zl_run hw rfl hdn (r_idxN hx hy h1) h
theorem z_idxA {l:List UInt8} {k:IntKind} {a b:Nat} {t:TypeId} [hu:Und P t .string] (hw:Want ops e g) (hdn:d<n) (hx:ev e x=some (.string (bs l))) (hy:ev e y=some (.int k (((a:Nat):Int)+((b:Nat):Int)))) (h1:a+b<l.length)
  (h:ZL P n ops rest ((d,.int .u8 (byteL l (a+b)))::e) w Q):ZL P n ops (⟨some d,.index t x y,ty,pos,aft,g⟩::rest) e w Q:=zl_run hw rfl hdn (r_idxN hx (by rw [hy,Int.natCast_add]) h1) h
theorem z_idxP {l:List UInt8} {k:IntKind} {a:Nat} {t:TypeId} [hu:Und P t .string] (hw:Want ops e g) (hdn:d<n) (hx:ev e x=some (.string (bs l))) (hy:ev e y=some (.int k (((a:Nat):Int)+1))) (h1:a+1<l.length)
  (h:ZL P n ops rest ((d,.int .u8 (byteL l (a+1)))::e) w Q):ZL P n ops (⟨some d,.index t x y,ty,pos,aft,g⟩::rest) e w Q:=zl_run hw rfl hdn (r_idxN hx (by rw [hy];rfl) h1) h
theorem z_idxM {l:List UInt8} {k:IntKind} {a:Nat} {t:TypeId} [hu:Und P t .string] (hw:Want ops e g) (hdn:d<n) (hx:ev e x=some (.string (bs l))) (hy:ev e y=some (.int k (((a:Nat):Int) - 1))) (h0:1≤a) (h1:a - 1<l.length)
  (h:ZL P n ops rest ((d,.int .u8 (byteL l (a - 1)))::e) w Q):ZL P n ops (⟨some d,.index t x y,ty,pos,aft,g⟩::rest) e w Q:=zl_run hw rfl hdn (r_idxN hx (by rw [hy];congr 2;omega) h1) h
theorem z_idxC {l:List UInt8} {k:IntKind} {i:Int} (j:Nat) {t:TypeId} [hu:Und P t .string] (hw:Want ops e g) (hdn:d<n) (hx:ev e x=some (.string (bs l))) (hy:ev e y=some (.int k i)) (hj:i=(j:Int)) (h1:j<l.length)
  (h:ZL P n ops rest ((d,.int .u8 (byteL l j))::e) w Q):ZL P n ops (⟨some d,.index t x y,ty,pos,aft,g⟩::rest) e w Q:=zl_run hw rfl hdn (r_idxN hx (by rw [hy,hj]) h1) h
theorem r_cutL {l:List UInt8} {lo hi:Option Operand} {a b:Int} {t:TypeId} [hu:Und P t .string] (hx:ev e x=some (.string (bs l))) (hl:optI lo e 0=some a) (hh:optI hi e l.length=some b) (h0:0≤a) (h1:a≤b) (h2:b≤l.length):
  Rd P n e w ⟨some d,.slice t x lo hi none,ty,pos,aft,g⟩ (.string (bs ((l.drop a.toNat).take (b.toNat - a.toNat)))):=by
 have:=r_cutS (P:=P) (n:=n) (w:=w) (d:=d) (ty:=ty) (pos:=pos) (aft:=aft) (g:=g) (t:=t) hx hl (by rw [bs_size];exact hh) h0 h1 (by rw [bs_size];exact h2)
 rwa [bs_cut] at this
theorem z_cutL {l:List UInt8} {lo hi:Option Operand} {a b:Int} {t:TypeId} [hu:Und P t .string] (hw:Want ops e g) (hdn:d<n) (hx:ev e x=some (.string (bs l))) (hl:optI lo e 0=some a) (hh:optI hi e l.length=some b) (h0:0≤a) (h1:a≤b) (h2:b≤l.length)
  (h:ZL P n ops rest ((d,.string (bs ((l.drop a.toNat).take (b.toNat - a.toNat))))::e) w Q):ZL P n ops (⟨some d,.slice t x lo hi none,ty,pos,aft,g⟩::rest) e w Q:=zl_run hw rfl hdn (r_cutL hx hl hh h0 h1 h2) h
theorem r_cutN {l:List UInt8} {lo hi:Option Operand} {a' b':Int} (a b:Nat) {t:TypeId} [hu:Und P t .string] (hx:ev e x=some (.string (bs l))) (hl:optI lo e 0=some a') (hh:optI hi e l.length=some b') (ha:a'=(a:Int)) (hb:b'=(b:Int)) (h1:a≤b) (h2:b≤l.length):
  Rd P n e w ⟨some d,.slice t x lo hi none,ty,pos,aft,g⟩ (.string (bs ((l.drop a).take (b - a)))):=by
 subst ha;subst hb
 exact r_cutL (P:=P) (n:=n) (w:=w) (d:=d) (ty:=ty) (pos:=pos) (aft:=aft) (g:=g) (t:=t) hx hl hh (by omega) (by omega) (by omega)
theorem z_cutN {l:List UInt8} {lo hi:Option Operand} {a' b':Int} (a b:Nat) {t:TypeId} [hu:Und P t .string] (hw:Want ops e g) (hdn:d<n) (hx:ev e x=some (.string (bs l))) (hl:optI lo e 0=some a') (hh:optI hi e l.length=some b') (ha:a'=(a:Int)) (hb:b'=(b:Int)) (h1:a≤b) (h2:b≤l.length)
  (h:ZL P n ops rest ((d,.string (bs ((l.drop a).take (b - a))))::e) w Q):ZL P n ops (⟨some d,.slice t x lo hi none,ty,pos,aft,g⟩::rest) e w Q:=zl_run hw rfl hdn (r_cutN a b hx hl hh ha hb h1 h2) h
theorem r_catL {l r:List UInt8} (hx:ev e x=some (.string (bs l))) (hy:ev e y=some (.string (bs r))) (hsz:(l.length:Int)+r.length≤9223372036854775807):Rd P n e w ⟨some d,.binOp .add xt x y yt,ty,pos,aft,g⟩ (.string (bs (l++r))):=by
 have:=r_cat (P:=P) (n:=n) (w:=w) (d:=d) (ty:=ty) (pos:=pos) (aft:=aft) (g:=g) (xt:=xt) (yt:=yt) hx hy (by rw [bs_size,bs_size];omega)
 rwa [bs_app] at this
theorem z_catL {l r:List UInt8} (hw:Want ops e g) (hdn:d<n) (hx:ev e x=some (.string (bs l))) (hy:ev e y=some (.string (bs r))) (hsz:(l.length:Int)+r.length≤9223372036854775807)
  (h:ZL P n ops rest ((d,.string (bs (l++r)))::e) w Q):ZL P n ops (⟨some d,.binOp .add xt x y yt,ty,pos,aft,g⟩::rest) e w Q:=zl_run hw rfl hdn (r_catL hx hy hsz) h
theorem r_eqL {l r:List UInt8} {q:Bool} (hx:ev e x=some (.string (bs l))) (hy:ev e y=some (.string (bs r))) (hq:q=true↔l=r):Rd P n e w ⟨some d,.binOp .eql xt x y yt,ty,pos,aft,g⟩ (.bool q):=by
 have:=r_eqSB (P:=P) (n:=n) (w:=w) (d:=d) (ty:=ty) (pos:=pos) (aft:=aft) (g:=g) (xt:=xt) (yt:=yt) hx hy
 have e2:decide (bs l=bs r)=q:=by rw [Bool.eq_iff_iff,hq];simp [bs_inj]
 rwa [e2] at this
theorem z_eqL {l r:List UInt8} (hw:Want ops e g) (hdn:d<n) (hx:ev e x=some (.string (bs l))) (hy:ev e y=some (.string (bs r)))
  (ht:l=r→ZL P n ops rest ((d,.bool true)::e) w Q) (hf:l≠r→ZL P n ops rest ((d,.bool false)::e) w Q):ZL P n ops (⟨some d,.binOp .eql xt x y yt,ty,pos,aft,g⟩::rest) e w Q:=
 z_eqS hw hdn hx hy (fun h=>ht (bs_inj.1 h)) (fun h=>hf (fun h'=>h (by rw [h'])))
theorem z_neL {l r:List UInt8} (hw:Want ops e g) (hdn:d<n) (hx:ev e x=some (.string (bs l))) (hy:ev e y=some (.string (bs r)))
  (ht:l≠r→ZL P n ops rest ((d,.bool true)::e) w Q) (hf:l=r→ZL P n ops rest ((d,.bool false)::e) w Q):ZL P n ops (⟨some d,.binOp .neq xt x y yt,ty,pos,aft,g⟩::rest) e w Q:=
 z_neS hw hdn hx hy (fun h=>ht (fun h'=>h (by rw [h']))) (fun h=>hf (bs_inj.1 h))
end
section
variable {P : Program} {n : Nat} {e : Env} {w : World} {Q : Exit → Act → World → Prop}
theorem zk_ret3 {x:Exit} (hx:x= .normal∨x= .ret) {fn:Func} {R:Ending→World→Prop} {t1 t2 t3:Tmp} {v1 v2 v3:Value} (hr:fn.results= #[.tmp t1,.tmp t2,.tmp t3]) (h1:Env.get e t1=some v1) (h2:Env.get e t2=some v2) (h3:Env.get e t3=some v3)
  (h:R (.returned (.tuple #[v1,v2,v3])) w):ZK n x e w (bodyPost P fn R):=
 zk_retR hx (v:= .tuple #[v1,v2,v3]) (fun a ha=>by
  have g1:a.tmps.getD t1 undef=v1:=by rw [Array.getD_eq_getD_getElem?,ha.at_ t1 _ h1];rfl
  have g2:a.tmps.getD t2 undef=v2:=by rw [Array.getD_eq_getD_getElem?,ha.at_ t2 _ h2];rfl
  have g3:a.tmps.getD t3 undef=v3:=by rw [Array.getD_eq_getD_getElem?,ha.at_ t3 _ h3];rfl
  simp only [Array.getD_eq_getD_getElem?] at g1 g2 g3
  simp [results,hr,g1,g2,g3]) h
theorem zc_midB {x y:Code} {id:Nat} {Q1 Q2:Exit→Act→World→Prop} (M:World→Prop) (e':Env) (h1:ZC P n x e w (Exit.inBlock id (Exit.then (fun a w'=>M w'∧Ok n e' a) Q2))) (h2: ∀w',M w'→ZC P n y e' w' Q1):
  ZC P n x e w (Exit.inBlock id (Exit.then (y.wp P Q1) Q2)):=by
 intro a ha
 refine wp_mono (h1 a ha) ?_
 intro z a' w' hq
 cases z with
 |normal=>exact h2 w' hq.1 a' hq.2
 |exit j=>
  simp only [Exit.inBlock] at hq ⊢
  split
  ·rename_i hj;rw [if_pos hj] at hq;exact h2 w' hq.1 a' hq.2
  ·rename_i hj;rw [if_neg hj] at hq;exact hq
 |goto l=>exact hq
 |ret=>exact hq
 |panic ch=>exact hq
 |outgrown=>exact hq
end
def RB (w:World) (v:Value) (l:List UInt8):Prop:= ∃A c,v= .slice A l.length c∧l.length≤c∧(0<l.length→ ∃b o,A=some ⟨b,o,none⟩∧ ∀i,i<l.length→w.cell? ⟨b,o+i,none⟩=some (.int .u8 (l.getD i 0).toNat))
theorem cell_keep {w w':World} {ad:Addr} {u:Value} (hc:Chg w w' No) (h:w.cell? ad=some u):w'.cell? ad=some u:=by
 have hlt:ad.block<w.heap.size:=by
  rcases Nat.lt_or_ge ad.block w.heap.size with h1|h1
  ·exact h1
  ·simp [World.cell?,Array.getElem?_eq_none h1] at h
 have:=hc.same ad.block hlt id
 simp only [World.cell?,this] at h ⊢
 exact h
def cellsB (l:List UInt8):List Value:=l.map fun b=> .int .u8 b.toNat
theorem cellsB_at (l:List UInt8) (i:Nat) (h:i<l.length):(cellsB l)[i]? =some (.int .u8 (l.getD i 0).toNat):=by
 simp [cellsB,List.getD_eq_getElem?_getD,List.getElem?_eq_getElem h]
section
variable {P : Program} {n : Nat} {e : Env} {w : World} {Q : Exit → Act → World → Prop} {ops : Array Oper} {rest : List Oper}
variable {d : Tmp} {ty : TypeId} {pos : String} {aft : Array Edge} {g : Option (Nat × Bool)} {x y : Operand} {xt yt : TypeId}
theorem fold_push: ∀(l:List UInt8) (s:ByteArray),((l.map fun b=>((b.toNat:Nat):Int)).foldl (fun r n=>r.push (UInt8.ofNat n.toNat)) s)=s++bs l
 | [],s=>by apply ByteArray.ext;simp [bs]
 |b::l,s=>by
  simp only [List.map_cons,List.foldl_cons]
  rw [fold_push l]
  apply ByteArray.ext
  simp [bs,ByteArray.push]
theorem r_convBS {src dst el:TypeId} {v:Value} {l:List UInt8} [hs:Und P src (.slice el)] [he:Und P el (.int .u8)] [hd:Und P dst .string] (hx:ev e x=some v) (hr:RB w v l):
  Rd P n e w ⟨some d,.convert src dst x,ty,pos,aft,g⟩ (.string (bs l)):=fun a ha=>by
 obtain ⟨A,c,rfl,hc,h3⟩:=hr
 have hrun:(Conv.bytesToString (.slice A l.length c)).run P w= .ok (.string (bs l)) w:=by
  by_cases h0:l.length=0
  ·obtain rfl:l= []:=List.eq_nil_of_length_eq_zero h0
   cases A with
   |none=>rfl
   |some ad=>
    have:=run_bytesToString (P:=P) w ad 0 c [] rfl
    exact this
  ·obtain ⟨b,o,rfl,h5⟩:=h3 (by omega)
   have hl:=run_loadCells_list (P:=P) w ⟨b,o,none⟩ (cellsB l) (fun j u hj=>by
    have hlt:j<l.length:=by have:=(List.getElem?_eq_some_iff.1 hj).1;simpa [cellsB] using this
    rw [addr_add,h5 j hlt,←cellsB_at l j hlt];exact hj)
   rw [show (cellsB l).length=l.length by simp [cellsB]] at hl
   have:=run_bytesToString (P:=P) w ⟨b,o,none⟩ l.length c (l.map fun b=>((b.toNat:Nat):Int)) (by rw [hl];simp [cellsB])
   rw [this,fold_push]
   rw [show ByteArray.empty++bs l=bs l by apply ByteArray.ext;simp]
 simp [execOp,ha.ev hx,run_convert_bytes_string w src dst el A l.length c hs.eq he.eq hd.eq,hrun]
theorem z_convBS {src dst el:TypeId} {v:Value} {l:List UInt8} [hs:Und P src (.slice el)] [he:Und P el (.int .u8)] [hd:Und P dst .string] (hw:Want ops e g) (hdn:d<n) (hx:ev e x=some v) (hr:RB w v l)
  (h:ZL P n ops rest ((d,.string (bs l))::e) w Q):ZL P n ops (⟨some d,.convert src dst x,ty,pos,aft,g⟩::rest) e w Q:=zl_run hw rfl hdn (r_convBS hx hr) h
def BlkB (w:World) (b el:Nat) (cs:List Value):Prop:=w.heap[b]? =some (.cells cs.toArray el (cs.length,cs.length+1))
theorem BlkB.cell {b el:Nat} {cs:List Value} (h:BlkB w b el cs) (o:Nat):w.cell? ⟨b,o,none⟩=cs[o]? :=by simp [World.cell?,show w.heap[b]? =_ from h]
theorem BlkB.rb {b el c:Nat} {l:List UInt8} {z:List Value} (h:BlkB w b el (cellsB l++z)) (hc:l.length≤c):RB w (.slice (some ⟨b,0,none⟩) l.length c) l:=
 ⟨_,_,rfl,hc,fun _=>⟨b,0,rfl,fun i hi=>by
  have hl:(cellsB l).length=l.length:=by simp [cellsB]
  rw [Nat.zero_add,h.cell,List.getElem?_append_left (by omega),cellsB_at l i hi]⟩⟩
theorem z_convSB {src dst el:TypeId} {l:List UInt8} {u:TypeDesc} [hs:Und P src u] [hd:Und P dst (.slice el)] [he:Und P el (.int .u8)] (hw:Want ops e g) (hdn:d<n) (hx:ev e x=some (.string (bs l)))
  (h: ∀w' b c z,b=w.heap.size→Chg w w' No→BlkB w' b el (cellsB l++z)→l.length≤c→ZL P n ops rest ((d,.slice (some ⟨b,0,none⟩) l.length c)::e) w' Q):
  ZL P n ops (⟨some d,.convert src dst x,ty,pos,aft,g⟩::rest) e w Q:=by
 have hr:=Lib.run_convert_string_bytes (P:=P) w src dst el (bs l) hs.eq hd.eq he.eq
 rw [bs_size] at hr
 refine zl_run (v:= .slice (some ⟨w.heap.size,0,none⟩) l.length (grownCap w l.length 0 el)) (w':=Lib.bytesWorld w el (bs l)) hw rfl hdn (fun A hA=>by simp [execOp,hA.ev hx,hr]) ?_
 refine h _ w.heap.size _ (List.replicate (grownCap w l.length 0 el - l.length) (Value.int .u8 0)) rfl ⟨rfl,rfl,rfl,by rw [Lib.bytesWorld_size];omega,fun k hk _=>Lib.bytesWorld_at_old w el (bs l) k hk⟩ ?_ ?_
 ·have:=Lib.bytesWorld_at_new w el (bs l)
  have e1:Lib.bytesCells w el (bs l)=(cellsB l++List.replicate (grownCap w l.length 0 el - l.length) (Value.int .u8 0)).toArray:=by
   unfold Lib.bytesCells
   rw [bs_size]
   simp [bs,cellsB]
  rw [e1] at this
  unfold BlkB
  simpa using this
 ·exact grownCap_ge w l.length 0 el
end
open Go
section
variable {P : Program} {n : Nat} {e : Env} {w : World} {Q : Exit → Act → World → Prop} {ops : Array Oper} {rest : List Oper}
variable {d : Tmp} {ty : TypeId} {pos : String} {aft : Array Edge} {g : Option (Nat × Bool)} {x y : Operand} {xt yt : TypeId}
def It (w:World) (k:Nat) (l:List UInt8) (p:Nat):Prop:=w.heap[k]? =some (.stringIter (bs l) p)
theorem z_range {l:List UInt8} {t:TypeId} [hu:Und P t .string] (hw:Want ops e g) (hdn:d<n) (hx:ev e x=some (.string (bs l)))
  (h: ∀w' k,k=w.heap.size→It w' k l 0→Chg w w' No→ZL P n ops rest ((d,.pointer (some ⟨k,0,none⟩))::e) w' Q):ZL P n ops (⟨some d,.range t x,ty,pos,aft,g⟩::rest) e w Q:=
 zl_run (w':=w.iter (bs l) 0) hw rfl hdn (fun A hA=>by simp [execOp,hA.ev hx,run_range_string w t (bs l) hu.eq]) (h _ _ rfl (by simp [It,World.iter_heap]) ⟨rfl,rfl,rfl,by simp [World.iter],fun k hk _=>Lib.alloc_old w _ k hk⟩)
theorem z_next {l:List UInt8} {k p:Nat} (hw:Want ops e g) (hdn:d<n) (hx:ev e x=some (.pointer (some ⟨k,0,none⟩))) (hi:It w k l p) (hp:p<l.length)
  (h: ∀w',It w' k l (p+(Utf8.decode (bs l) p).2)→Chg w w' (· =k)→ZL P n ops rest ((d,.tuple #[.bool true,.int .i64 p,.int .i32 (Utf8.decode (bs l) p).1])::e) w' Q):
  ZL P n ops (⟨some d,.next x true,ty,pos,aft,g⟩::rest) e w Q:=by
 have hk:k<w.heap.size:=(Array.getElem?_eq_some_iff.1 hi).1
 refine zl_run (w':=w.iterAt k (bs l) (p+(Utf8.decode (bs l) p).2)) hw rfl hdn (fun A hA=>by simp [execOp,hA.ev hx,Lib.run_next_any_at w k (bs l) p ty hi (by rw [bs_size];exact hp)]) (h _ ?_ ⟨rfl,rfl,rfl,by simp [World.iterAt],fun j _ hj=> ?_⟩)
 ·simp [It,World.iterAt,hk]
 ·have hj': ¬j=k:=hj
  simp [World.iterAt,Array.getElem?_setIfInBounds,Ne.symm hj']
theorem z_nextE {l:List UInt8} {k p:Nat} (hw:Want ops e g) (hdn:d<n) (hx:ev e x=some (.pointer (some ⟨k,0,none⟩))) (hi:It w k l p) (hp: ¬p<l.length)
  (h:ZL P n ops rest ((d,.tuple #[.bool false])::e) w Q):ZL P n ops (⟨some d,.next x true,ty,pos,aft,g⟩::rest) e w Q:=
 zl_run hw rfl hdn (fun A hA=>by simp [execOp,hA.ev hx,Lib.run_next_end_at w k (bs l) p ty hi (by rw [bs_size];exact hp)]) h
end
open Go
section
variable {P : Program} {n : Nat} {e : Env} {w : World} {Q : Exit → Act → World → Prop} {ops : Array Oper} {rest : List Oper}
variable {d : Tmp} {ty : TypeId} {pos : String} {aft : Array Edge} {g : Option (Nat × Bool)} {ks : List Nat} {S : World → Prop}
theorem run_bs0 {t el:TypeId} {s k:Nat} {z:Value} [hu:Und P t (.slice el)] [hz:Inf P el s k z]:
  ∀a,Ok n e a→(execOp a.eval (⟨some d,.buildSlice t 0 #[],ty,pos,aft,g⟩:Oper)).run P w= .ok (.value (.slice (some ⟨w.heap.size,0,none⟩) 0 0)) {w with heap:=w.heap.push (.cells (([]:List Value)).toArray el)}:=fun A hA=>by
 have h2: ¬(0*s>2 ^ 24):=by omega
 simp only [execOp,Sem.run_bind,List.map_toArray,List.map_nil]
 simp only [Instr.buildSlice,Sem.run_bind,run_underlying hu.eq,Result.andThen_ok,hz.size w]
 rw [if_neg h2,if_pos (by omega)]
 have e0:(Array.range 0).map (fun _:Nat=>(default:Value))= #[]:=Array.eq_empty_of_size_eq_zero (by simp)
 simp [newRow,Instr.fill,e0]
theorem z_bs0 {t el:TypeId} {s k:Nat} {z:Value} [hu:Und P t (.slice el)] [hz:Inf P el s k z] (hw:Want ops e g) (hdn:d<n)
  (h: ∀w' b,New w w' b el []→ZL P n ops rest ((d,.slice (some ⟨b,0,none⟩) 0 0)::e) w' Q):ZL P n ops (⟨some d,.buildSlice t 0 #[],ty,pos,aft,g⟩::rest) e w Q:=
 zl_run hw rfl hdn run_bs0 (h _ _ (New.mk' w el _))
theorem zs_bs0 {i:Nat} {r:Ord} {t el:TypeId} {s k:Nat} {z:Value} [hu:Und P t (.slice el)] [hz:Inf P el s k z] (hi:ops[i]? =some ⟨some d,.buildSlice t 0 #[],ty,pos,aft,g⟩) (hw:Want ops e g) (hdn:d<n)
  (h: ∀w' b,New w w' b el []→S w'∧ZS P n ops ks S r ((d,.slice (some ⟨b,0,none⟩) 0 0)::e) w' Q):ZS P n ops ks S (.all1 i r) e w Q:=
 zs_new (t:=el) (cs:= []) (v:= .slice (some ⟨w.heap.size,0,none⟩) 0 0) hi hw rfl hdn run_bs0 (fun w' b hb hn=>by subst hb;exact h w' _ hn)
theorem Own.empty {w w':World} {t sz b:Nat} (h:New w w' b t []):Own w' t sz (.slice (some ⟨b,0,none⟩) 0 0) 0 []:=
 Own.mk' (junk:= []) (by simp) (Nat.le_refl _) (Nat.zero_le _) h.blk (by simp) (by simp)
def ZO (P:Program) (n:Nat) (ops:Array Oper) (ks:List Nat) (S:World→Prop) (i:Nat) (r:Ord) (e:Env) (w:World) (Q:Exit→Act→World→Prop):Prop:=
 S w→ ∀a,Ok n e a→wpOp P ops (NP Q) i (fun a' w'=>S w'∧ ∃e',Ok n e' a'∧ZS P n ops ks S r e' w' Q) a w
theorem zs_two {i j:Nat} {r s:Ord} (h1:ZO P n ops ks S i r e w Q) (h2:ZO P n ops ks S j s e w Q):ZS P n ops ks S (.all2 i r j s) e w Q:=
 zs_all2 fun hS a ha=>⟨h1 hS a ha,h2 hS a ha⟩
theorem zo_run {i:Nat} {o:Oper} {v:Value} {w':World} {r:Ord} (hi:ops[i]? =some o) (hw:Want ops e o.guard) (hd:o.dst=some d) (hdn:d<n) (hr: ∀a,Ok n e a→(execOp a.eval o).run P w= .ok (.value v) w')
  (hS:S w') (h:ZS P n ops ks S r ((d,v)::e) w' Q):ZO P n ops ks S i r e w Q:=fun hS0 a ha=>by
 unfold wpOp
 simp only [hi,hw.wanted ha,if_true]
 refine .inl ?_
 unfold Oper.wp
 rw [hr a ha,Oper.upon_value,hd]
 exact ⟨hS,_,ha.put d v hdn,h⟩
theorem zo_bs0 {i:Nat} {r:Ord} {t el:TypeId} {s k:Nat} {z:Value} [hu:Und P t (.slice el)] [hz:Inf P el s k z] (hi:ops[i]? =some ⟨some d,.buildSlice t 0 #[],ty,pos,aft,g⟩) (hw:Want ops e g) (hdn:d<n)
  (h: ∀w' b,New w w' b el []→S w'∧ZS P n ops ks S r ((d,.slice (some ⟨b,0,none⟩) 0 0)::e) w' Q):ZO P n ops ks S i r e w Q:=by
 obtain ⟨h4,h5⟩:=h _ _ (New.mk' w el [])
 exact zo_run hi hw rfl hdn run_bs0 h4 h5
theorem zo_bs1 {i:Nat} {r:Ord} {t el:TypeId} {s k:Nat} {z v:Value} {x:Operand} [hu:Und P t (.slice el)] [hz:Inf P el s k z] (hi:ops[i]? =some ⟨some d,.buildSlice t 1 #[(0,x)],ty,pos,aft,g⟩) (hw:Want ops e g) (hdn:d<n) (hx:ev e x=some v) (hzs:z.cells.size=s) (hs:v.cells.size=s) (hpos:s≠0) (hsm:s≤16777216)
  (h: ∀w' b,New w w' b el v.cells.toList→S w'∧ZS P n ops ks S r ((d,.slice (some ⟨b,0,none⟩) 1 1)::e) w' Q):ZO P n ops ks S i r e w Q:=by
 obtain ⟨h4,h5⟩:=h _ _ (New.mk' w el _)
 exact zo_run hi hw rfl hdn (run_bs1 hx hzs hs hpos hsm) h4 h5
theorem zo_appendO {i:Nat} {r:Ord} {s x:Operand} {t el:TypeId} {sz k m m':Nat} {z v xv:Value} {xs news:List Value} [hu:Und P t (.slice el)] [hz:Inf P el sz k z] (hi:ops[i]? =some ⟨some d,.call {callee:= .builtin .append,args:= #[s,x],argTypes:= #[t,t]},ty,pos,aft,g⟩) (hzs:z.cells.size=sz) (hsz:0<sz) (hw:Want ops e g) (hdn:d<n)
  (hs:ev e s=some v) (hx:ev e x=some xv) (hown:Own w el sz v m xs) (hnews:RdS w el sz xv m' news) (h63:m+m'≤9223372036854775807) (hby:(m+m')*k≤140737488355328)
  (h: ∀v' w',Own w' el sz v' (m+m') (xs++news)→Chg w w' (fun k=>v.ownBlock=some k)→(v'.ownBlock=v.ownBlock∨ ∃k,v'.ownBlock=some k∧w.heap.size≤k)→S w'∧ZS P n ops ks S r ((d,v')::e) w' Q):
  ZO P n ops ks S i r e w Q:=by
 obtain ⟨v',w',hr,h1,h2,h3⟩:=append_run (P:=P) (n:=n) (d:=d) (ty:=ty) (pos:=pos) (aft:=aft) (g:=g) (t:=t) hzs hsz hs hx hown hnews h63 hby
 obtain ⟨h4,h5⟩:=h v' w' h1 h2 h3
 exact zo_run hi hw rfl hdn hr h4 h5
theorem zo_call {i:Nat} {dst:Option Tmp} {d:Tmp} {f:FuncId} {l:List Operand} {ats:Array TypeId} {ty:TypeId} {pos:String} {aft:Array Edge} {g:Option (Nat×Bool)} {vs:List Value} {R:Ending→World→Prop} {r:Ord} [hf:IsFn P f]
  (hi:ops[i]? =some ⟨dst,.call {callee:= .value (.func f),args:=l.toArray,argTypes:=ats},ty,pos,aft,g⟩) (hw:Want ops e g) (hd:dst=some d) (hdn:d<n) (hx:evs e l=some vs)
  (hc:Calls P f vs.toArray w R) (h: ∀x w',R x w'→ ∃v,x= .returned v∧S w'∧ZS P n ops ks S r ((d,v)::e) w' Q):ZO P n ops ks S i r e w Q:=fun hS0 A hA=>by
 subst hd
 obtain ⟨fn,h1,h2,h3⟩:=hf.ex
 unfold wpOp
 rw [hi]
 simp only [Want.wanted (o:=⟨some d,.call {callee:= .value (.func f),args:=l.toArray,argTypes:=ats},ty,pos,aft,g⟩) hw hA,if_true]
 refine .inl ?_
 unfold Oper.wp
 have hm:l.map A.eval=vs:=evs_map hA hx
 have h2': ¬fn.name= "runtime.NumGoroutine" :=by simpa using h2
 have h3': ¬fn.body=none:=fun h=>by simp [h] at h3
 have hr:(execOp A.eval (⟨some d,.call {callee:= .value (.func f),args:=l.toArray,argTypes:=ats},ty,pos,aft,g⟩:Oper)).run P w= .ok (.enter f vs.toArray) w:=by
  simp [execOp,resolve,Act.eval,Deferred.ofValue,invoke,callFunc,h1,h2',h3',hm]
 rw [hr,Oper.upon_enter]
 refine hc.mono fun x w' hx=> ?_
 obtain ⟨v,rfl,hS',hz⟩:=h x w' hx
 exact ⟨hS',_,hA.put d v hdn,hz⟩
theorem zo_alloc {i:Nat} {r:Ord} {t:TypeId} {s k:Nat} {z:Value} [hz:Inf P t s k z] (hi:ops[i]? =some ⟨some d,.alloc t,ty,pos,aft,g⟩) (hw:Want ops e g) (hdn:d<n)
  (h: ∀w' b,New w w' b t z.cells.toList→S w'∧ZS P n ops ks S r ((d,.pointer (some ⟨b,0,none⟩))::e) w' Q):ZO P n ops ks S i r e w Q:=by
 obtain ⟨h4,h5⟩:=h _ _ (New.mk' w t _)
 exact zo_run hi hw rfl hdn (fun a ha=>by simp [execOp,Instr.alloc,hz.zero w,newVar,newRow]) h4 h5
theorem zc_midTX {ι:Type} {x y:Code} {Q1 Q2:Exit→Act→World→Prop} (M:ι→World→Prop) (e':ι→Env) (h1:ZC P n x e w (Exit.then (fun a w'=> ∃i,M i w'∧Ok n (e' i) a) Q2)) (h2: ∀i w',M i w'→ZC P n y (e' i) w' Q1):ZC P n x e w (Exit.then (y.wp P Q1) Q2):=by
 unfold ZC at*
 intro a ha
 refine wp_mono (h1 a ha) ?_
 intro z a' w' hq
 cases z with
 |normal=>obtain ⟨i,hm,ho⟩:=hq;exact h2 i w' hm a' ho
 |exit id=>exact hq
 |goto l=>exact hq
 |ret=>exact hq
 |panic ch=>exact hq
 |outgrown=>exact hq
theorem zc_midX {ι:Type} {x y:Code} (M:ι→World→Prop) (e':ι→Env) (h1:ZC P n x e w (Exit.then (fun a w'=> ∃i,M i w'∧Ok n (e' i) a) Q)) (h2: ∀i w',M i w'→ZC P n y (e' i) w' Q):ZC P n (.seq x y) e w Q:=zS (zc_midTX M e' h1 h2)
theorem zc_midBX {ι:Type} {x y:Code} {id:Nat} {Q1 Q2:Exit→Act→World→Prop} (M:ι→World→Prop) (e':ι→Env) (h1:ZC P n x e w (Exit.inBlock id (Exit.then (fun a w'=> ∃i,M i w'∧Ok n (e' i) a) Q2))) (h2: ∀i w',M i w'→ZC P n y (e' i) w' Q1):
  ZC P n x e w (Exit.inBlock id (Exit.then (y.wp P Q1) Q2)):=by
 unfold ZC at*
 intro a ha
 refine wp_mono (h1 a ha) ?_
 intro z a' w' hq
 cases z with
 |normal=>obtain ⟨i,hm,ho⟩:=hq;exact h2 i w' hm a' ho
 |exit j=>
  simp only [Exit.inBlock] at hq ⊢
  split
  ·rename_i hj;rw [if_pos hj] at hq;obtain ⟨i,hm,ho⟩:=hq;exact h2 i w' hm a' ho
  ·rename_i hj;rw [if_neg hj] at hq;exact hq
 |goto l=>exact hq
 |ret=>exact hq
 |panic ch=>exact hq
 |outgrown=>exact hq
theorem zk_midX {ι:Type} {M:ι→World→Prop} {e':ι→Env} (i:ι) (hM:M i w) (hs:Sub (e' i) e):ZK n .normal e w (Exit.then (fun a w'=> ∃i,M i w'∧Ok n (e' i) a) Q):=by
 unfold ZK
 exact fun a ha=>⟨i,hM,ha.sub hs⟩
end
attribute [irreducible] ZL ZC ZK ZS ZT ZA
open Go
section
variable {P : Program} {n : Nat} {e : Env} {w : World} {Q : Exit → Act → World → Prop} {ops : Array Oper} {rest : List Oper}
variable {d : Tmp} {ty : TypeId} {pos : String} {aft : Array Edge} {g : Option (Nat × Bool)} {x y : Operand} {xt yt : TypeId}
theorem zCm {op:BinOp} {k:IntKind} {a b:Int} {p:Prop} {r:Bool} (hx:ev e x=some (.int k a)) (hy:ev e y=some (.int k b)) (hop:cmpP op a b=some p) (hr:(r=true)↔p) (h:ZL P n ops rest ((d,.bool r)::e) w Q) (hw:Want ops e g:=by first|exact want_none|exact want_L rfl) (hdn:d<n:=by decide):
 ZL P n ops (⟨some d,.binOp op xt x y yt,ty,pos,aft,g⟩::rest) e w Q:=z_cmpB hw hdn hx hy hop hr h
theorem zCF {op:BinOp} {k:IntKind} {a b:Int} {p:Prop} (hx:ev e x=some (.int k a)) (hy:ev e y=some (.int k b)) (hop:cmpP op a b=some p) (h:ZL P n ops rest ((d,.bool false)::e) w Q) (hr: ¬p:=by omega) (hw:Want ops e g:=by first|exact want_none|exact want_L rfl) (hdn:d<n:=by decide):
 ZL P n ops (⟨some d,.binOp op xt x y yt,ty,pos,aft,g⟩::rest) e w Q:=z_cmpB hw hdn hx hy hop (iff_of_false Bool.false_ne_true hr) h
theorem zCT {op:BinOp} {k:IntKind} {a b:Int} {p:Prop} (hx:ev e x=some (.int k a)) (hy:ev e y=some (.int k b)) (hop:cmpP op a b=some p) (h:ZL P n ops rest ((d,.bool true)::e) w Q) (hr:p:=by omega) (hw:Want ops e g:=by first|exact want_none|exact want_L rfl) (hdn:d<n:=by decide):
 ZL P n ops (⟨some d,.binOp op xt x y yt,ty,pos,aft,g⟩::rest) e w Q:=z_cmpB hw hdn hx hy hop (iff_of_true rfl hr) h
theorem zCl {f:FuncId} {l:List Operand} {ats:Array TypeId} {vs:List Value} {R:Ending→World→Prop} [hf:IsFn P f] (hx:evs e l=some vs) (hc:Calls P f vs.toArray w R) (h: ∀x w',R x w'→ ∃v,x= .returned v∧ZL P n ops rest ((d,v)::e) w' Q) (hw:Want ops e g:=by first|exact want_none|exact want_L rfl) (hdn:d<n:=by decide):
 ZL P n ops (⟨some d,.call {callee:= .value (.func f),args:=l.toArray,argTypes:=ats},ty,pos,aft,g⟩::rest) e w Q:=zl_call hw rfl hdn hx hc h
theorem zCr {f:FuncId} {l:List Operand} {ats:Array TypeId} {vs:List Value} {r:Value} {S:World→Prop} [hf:IsFn P f] (hx:evs e l=some vs) (hc:Calls P f vs.toArray w fun x w'=>x= .returned r∧S w') (h: ∀w',S w'→ZL P n ops rest ((d,r)::e) w' Q) (hw:Want ops e g:=by first|exact want_none|exact want_L rfl) (hdn:d<n:=by decide):
 ZL P n ops (⟨some d,.call {callee:= .value (.func f),args:=l.toArray,argTypes:=ats},ty,pos,aft,g⟩::rest) e w Q:=zl_call hw rfl hdn hx hc fun _ w' hq=>⟨r,hq.1,h w' hq.2⟩
theorem zCp {f:FuncId} {l:List Operand} {ats:Array TypeId} {vs:List Value} {r:Value} [hf:IsFn P f] (hx:evs e l=some vs) (hc:Calls P f vs.toArray w fun x w'=>x= .returned r∧w'=w) (h:ZL P n ops rest ((d,r)::e) w Q) (hw:Want ops e g:=by first|exact want_none|exact want_L rfl) (hdn:d<n:=by decide):
 ZL P n ops (⟨some d,.call {callee:= .value (.func f),args:=l.toArray,argTypes:=ats},ty,pos,aft,g⟩::rest) e w Q:=zl_call hw rfl hdn hx hc fun _ w' hq=>⟨r,hq.1,by rw [hq.2];exact h⟩
theorem zfa {s f off b o:Nat} [hF:FA P s f off] (hx:ev e x=some (.pointer (some ⟨b,o,none⟩))) (h:ZL P n ops rest ((d,.pointer (some ⟨b,o+off,none⟩))::e) w Q) (hw:Want ops e g:=by first|exact want_none|exact want_L rfl) (hdn:d<n:=by decide):
 ZL P n ops (⟨some d,.fieldAddr s x f,ty,pos,aft,g⟩::rest) e w Q:=z_fa hw hdn hx h
theorem zlD {t:TypeId} {b o:Nat} {bt:TypeId} {cs:List Value} {v:Value} [hA:IsA P t false] (hx:ev e x=some (.pointer (some ⟨b,o,none⟩))) (hb:Blk w b bt cs) (hv:cs[o]? =some v) (h:ZL P n ops rest ((d,v)::e) w Q) (hw:Want ops e g:=by first|exact want_none|exact want_L rfl) (hdn:d<n:=by decide):
 ZL P n ops (⟨some d,.load t x,ty,pos,aft,g⟩::rest) e w Q:=z_loadB hw hdn hx hb hv h
theorem zlB {t:TypeId} {b o:Nat} {bt:TypeId} {cs:List Value} {v:Value} [hA:IsA P t false] (hx:ev e x=some (.pointer (some ⟨b,o,none⟩))) (h:ZL P n ops rest ((d,v)::e) w Q) (hb:Blk w b bt cs:=by assumption) (hv:cs[o]? =some v:=by rfl) (hw:Want ops e g:=by first|exact want_none|exact want_L rfl) (hdn:d<n:=by decide):
 ZL P n ops (⟨some d,.load t x,ty,pos,aft,g⟩::rest) e w Q:=z_loadB hw hdn hx hb hv h
theorem zlA {t:TypeId} {b:Nat} {bt:TypeId} {cs:List Value} {sz k:Nat} {z:Value} [hA:IsA P t true] [hz:Inf P t sz k z] (hx:ev e x=some (.pointer (some ⟨b,0,none⟩))) (h:ZL P n ops rest ((d,.agg cs.toArray)::e) w Q) (hb:Blk w b bt cs:=by assumption) (hl:cs.length=sz:=by rfl) (hw:Want ops e g:=by first|exact want_none|exact want_L rfl) (hdn:d<n:=by decide):
 ZL P n ops (⟨some d,.load t x,ty,pos,aft,g⟩::rest) e w Q:=z_loadAB hw hdn hx hb hl h
theorem zL1 {t:TypeId} {ad:Addr} {v:Value} [hA:IsA P t false] (hx:ev e x=some (.pointer (some ad))) (hc:w.cell? ad=some v) (h:ZL P n ops rest ((d,v)::e) w Q) (hw:Want ops e g:=by first|exact want_none|exact want_L rfl) (hdn:d<n:=by decide):
 ZL P n ops (⟨some d,.load t x,ty,pos,aft,g⟩::rest) e w Q:=z_load1 hw hdn hx hc h
theorem zEq {l r:List UInt8} (hx:ev e x=some (.string (bs l))) (hy:ev e y=some (.string (bs r))) (ht:l=r→ZL P n ops rest ((d,.bool true)::e) w Q) (hf:l≠r→ZL P n ops rest ((d,.bool false)::e) w Q) (hw:Want ops e g:=by first|exact want_none|exact want_L rfl) (hdn:d<n:=by decide):
 ZL P n ops (⟨some d,.binOp .eql xt x y yt,ty,pos,aft,g⟩::rest) e w Q:=z_eqL hw hdn hx hy ht hf
theorem zBx {t:TypeId} {v:Value} (hx:ev e x=some v) (h: ∀w' b,New w w' b t v.cells.toList→ZL P n ops rest ((d,.pointer (some ⟨b,0,none⟩))::e) w' Q) (hw:Want ops e g:=by first|exact want_none|exact want_L rfl) (hdn:d<n:=by decide):
 ZL P n ops (⟨some d,.box t x,ty,pos,aft,g⟩::rest) e w Q:=z_box hw hdn hx h
theorem zAd {a b:Int} (hx:ev e x=some (.int .i64 a)) (hy:ev e y=some (.int .i64 b)) (h:ZL P n ops rest ((d,.int .i64 (a+b))::e) w Q) (h0: -9223372036854775808≤a+b:=by omega) (h1:a+b≤9223372036854775807:=by omega) (hw:Want ops e g:=by first|exact want_none|exact want_L rfl) (hdn:d<n:=by decide):
 ZL P n ops (⟨some d,.binOp .add xt x y yt,ty,pos,aft,g⟩::rest) e w Q:=z_add hw hdn hx hy h0 h1 h
theorem zLL {l:List UInt8} {t:TypeId} [hu:Und P t .string] (hx:ev e x=some (.string (bs l))) (h:ZL P n ops rest ((d,.int .i64 l.length)::e) w Q) (hw:Want ops e g:=by first|exact want_none|exact want_L rfl) (hdn:d<n:=by decide):
 ZL P n ops (⟨some d,.call {callee:= .builtin .len,args:= #[x],argTypes:= #[t]},ty,pos,aft,g⟩::rest) e w Q:=z_lenL hw hdn hx h
theorem zLn {A:Option Addr} {m c:Nat} {t el:TypeId} [hu:Und P t (.slice el)] (hx:ev e x=some (.slice A m c)) (h:ZL P n ops rest ((d,.int .i64 m)::e) w Q) (hw:Want ops e g:=by first|exact want_none|exact want_L rfl) (hdn:d<n:=by decide):
 ZL P n ops (⟨some d,.call {callee:= .builtin .len,args:= #[x],argTypes:= #[t]},ty,pos,aft,g⟩::rest) e w Q:=z_len hw hdn hx h
theorem zAl {t:TypeId} {s k:Nat} {z:Value} [hz:Inf P t s k z] (h: ∀w' b,New w w' b t z.cells.toList→ZL P n ops rest ((d,.pointer (some ⟨b,0,none⟩))::e) w' Q) (hw:Want ops e g:=by first|exact want_none|exact want_L rfl) (hdn:d<n:=by decide):
 ZL P n ops (⟨some d,.alloc t,ty,pos,aft,g⟩::rest) e w Q:=z_alloc hw hdn h
theorem zIa {b o m c s k:Nat} {ik:IntKind} {i:Int} {t el:TypeId} {z:Value} [hu:Und P t (.slice el)] [hz:Inf P el s k z] (hx:ev e x=some (.slice (some ⟨b,o,none⟩) m c)) (hy:ev e y=some (.int ik i)) (h:ZL P n ops rest ((d,.pointer (some ⟨b,o+i.toNat*s,none⟩))::e) w Q) (h0:0≤i:=by omega) (h1:i<m:=by omega) (hw:Want ops e g:=by first|exact want_none|exact want_L rfl) (hdn:d<n:=by decide):
 ZL P n ops (⟨some d,.indexAddr t x y,ty,pos,aft,g⟩::rest) e w Q:=z_ia hw hdn hx hy h0 h1 h
theorem zIx {l:List UInt8} {k:IntKind} {j:Nat} {t:TypeId} [hu:Und P t .string] (hx:ev e x=some (.string (bs l))) (hy:ev e y=some (.int k ((j:Nat):Int))) (h:ZL P n ops rest ((d,.int .u8 (byteL l j))::e) w Q) (h1:j<l.length:=by omega) (hw:Want ops e g:=by first|exact want_none|exact want_L rfl) (hdn:d<n:=by decide):
 ZL P n ops (⟨some d,.index t x y,ty,pos,aft,g⟩::rest) e w Q:=z_idxN hw hdn hx hy h1 h
theorem zB1 {t el:TypeId} {s k:Nat} {z v:Value} [hu:Und P t (.slice el)] [hz:Inf P el s k z] (hx:ev e x=some v) (h: ∀w' b,New w w' b el v.cells.toList→ZL P n ops rest ((d,.slice (some ⟨b,0,none⟩) 1 1)::e) w' Q) (hzs:z.cells.size=s:=by rfl) (hs:v.cells.size=s:=by rfl) (hpos:s≠0:=by decide) (hsm:s≤16777216:=by decide) (hw:Want ops e g:=by first|exact want_none|exact want_L rfl) (hdn:d<n:=by decide):
 ZL P n ops (⟨some d,.buildSlice t 1 #[(0,x)],ty,pos,aft,g⟩::rest) e w Q:=z_bs1 hw hdn hx hzs hs hpos hsm h
theorem zCz {f:FuncId} {fn:Func} {c:Code} {args:List Value} {R:Ending→World→Prop} (n:Nat) (hf:P.funcs[f]? =some fn) (h:ZC P n c (envOf args 0) w (bodyPost P fn R)) (hb:fn.body=some c:=by rfl) (hn:fn.ntmps=n:=by rfl) (hle:args.length≤n:=by simp):Calls P f args.toArray w R:=calls_zc hf hb hn hle h
end
section
variable {P : Program} {n : Nat} {e : Env} {w : World} {Q : Exit → Act → World → Prop} {l rest : List Oper} {ks : List Nat} {S : World → Prop}
theorem zRd {i:Nat} {o:Oper} {d:Tmp} {v:Value} {r:Ord} (hi:nth l i=some o) (hd:o.dst=some d) (hr: ∀w',S w'→Rd P n e w' o v) (h:ZS P n l.toArray ks S r ((d,v)::e) w Q) (hw:Want l.toArray e o.guard:=by first|exact want_none|exact want_L rfl) (hdn:d<n:=by decide):ZS P n l.toArray ks S (.take i r) e w Q:=zs_rdL hi hw hd hdn hr h
theorem ztP {i:Nat} {o:Oper} {d:Tmp} {v:Value} {r:Ord} (hi:nth l i=some o) (hs:stepL n l e o=some (d,v)) (h:ZS P n l.toArray ks S r ((d,v)::e) w Q):ZS P n l.toArray ks S (.take i r) e w Q:=zs_take hi (zt_pure hs h)
end
open Go
structure Hq (p:Prop):Prop where
 q:p
theorem zz {X Y:Prop} (q:Y) (h:Hq Y→X:=by intro q; (repeat (first|(show ZL _ _ _ _ _ _ _;first|(show ZL _ _ _ [] _ _ _;refine zN ?_)|(first|(show ZL _ _ _ (⟨_,(.move _),_,_,_,_⟩::_) _ _ _;refine zP rfl ?_)|(show ZL _ _ _ (⟨_,(.assign _),_,_,_,_⟩::_) _ _ _;refine zP rfl ?_)|(show ZL _ _ _ (⟨_,(.nilCheck _),_,_,_,_⟩::_) _ _ _;refine zP rfl ?_)|(show ZL _ _ _ (⟨_,(.pick _ _ _),_,_,_,_⟩::_) _ _ _;refine zP rfl ?_)|(show ZL _ _ _ (⟨_,(.extract _ _),_,_,_,_⟩::_) _ _ _;refine zP rfl ?_)|(show ZL _ _ _ (⟨_,(.unOp .not _ _),_,_,_,_⟩::_) _ _ _;refine zP rfl ?_)|(show ZL _ _ _ (⟨_,(.load _ _),_,_,_,_⟩::_) _ _ _;first|(refine zlB rfl ?_)|(refine zL1 rfl (by assumption) ?_)|(refine zlA rfl ?_))|(show ZL _ _ _ (⟨_,(.fieldAddr _ _ _),_,_,_,_⟩::_) _ _ _; (refine zfa rfl ?_))|(show ZL _ _ _ (⟨_,(.indexAddr _ _ _),_,_,_,_⟩::_) _ _ _; (refine zIa rfl rfl ?_))|(show ZL _ _ _ (⟨_,(.call ⟨.builtin .len,_,_⟩),_,_,_,_⟩::_) _ _ _;first|(refine zLn rfl ?_)|(refine zLL rfl ?_)|(refine z_lenS (want_L rfl) (by decide) rfl ?_))|(show ZL _ _ _ (⟨_,(.binOp .add _ _ _ _),_,_,_,_⟩::_) _ _ _;first|(refine zAd rfl rfl ?_)|(refine z_catL (want_L rfl) (by decide) rfl rfl (by omega) ?_)|(refine z_catL (want_L rfl) (by decide) rfl rfl (by simp only [List.length_append,List.length_cons,List.length_nil];omega) ?_))|(show ZL _ _ _ (⟨_,(.binOp .sub _ _ _ _),_,_,_,_⟩::_) _ _ _; (refine z_sub (want_L rfl) (by decide) rfl rfl (by omega) (by omega) ?_))|(show ZL _ _ _ (⟨_,(.index _ _ _),_,_,_,_⟩::_) _ _ _;first|(refine z_idxP (want_L rfl) (by decide) rfl rfl (by omega) ?_)|(refine z_idxM (want_L rfl) (by decide) rfl rfl (by omega) (by omega) ?_)|(refine z_idxC 0 (want_L rfl) (by decide) rfl rfl rfl (by omega) ?_)|(refine z_idxC 1 (want_L rfl) (by decide) rfl rfl rfl (by omega) ?_)|(refine zIx rfl rfl ?_)|(refine z_idxA (want_L rfl) (by decide) rfl rfl (by omega) ?_))|(show ZL _ _ _ (⟨_,(.binOp _ _ _ _ _),_,_,_,_⟩::_) _ _ _;first|(refine zCT rfl rfl rfl ?_)|(refine zCF rfl rfl rfl ?_))|(show ZL _ _ _ (⟨_,_,_,_,_,some _⟩::_) _ _ _;refine zJ rfl ?_)))|(show ZC _ _ _ _ _ _;first|(show ZC _ _ (.seq _ _) _ _ _;refine zS ?_)|(show ZC _ _ (.region _ _ false) _ _ _;refine zR ?_)|(show ZC _ _ (.block _ _) _ _ _;refine zB ?_)|(show ZC _ _ .skip _ _ _;refine zA ?_)|(show ZC _ _ (.exit _) _ _ _;refine zL ?_)|(show ZC _ _ .ret _ _ _;refine zE ?_)|(show ZC _ _ (.cond _ _ _) _ _ _;first|refine zT rfl ?_|refine zF rfl ?_))|(show ZK _ _ _ _ _;first|refine zK ?_|refine zX ?_|refine zQ ?_|refine zW ?_|refine zM ?_|refine zY ?_|refine zY' rfl ?_)|(show ZS _ _ _ _ _ _ _ _ _;first|(show ZS _ _ _ _ _ (.take _ _) _ _ _; (refine zs_take rfl ?_;first|(show ZT _ _ _ _ _ _ _ ⟨_,(.move _),_,_,_,_⟩ _ _ _;refine zt_pure rfl ?_)|(show ZT _ _ _ _ _ _ _ ⟨_,(.assign _),_,_,_,_⟩ _ _ _;refine zt_pure rfl ?_)|(show ZT _ _ _ _ _ _ _ ⟨_,(.nilCheck _),_,_,_,_⟩ _ _ _;refine zt_pure rfl ?_)|(show ZT _ _ _ _ _ _ _ ⟨_,(.pick _ _ _),_,_,_,_⟩ _ _ _;refine zt_pure rfl ?_)|(show ZT _ _ _ _ _ _ _ ⟨_,(.extract _ _),_,_,_,_⟩ _ _ _;refine zt_pure rfl ?_)|(show ZT _ _ _ _ _ _ _ ⟨_,(.unOp .not _ _),_,_,_,_⟩ _ _ _;refine zt_pure rfl ?_)|(show ZT _ _ _ _ _ _ _ ⟨_,(.load _ _),_,_,_,_⟩ _ _ _;first|(refine zt_rd (want_L rfl) rfl (by decide) (fun _ hS=>r_loadB rfl (by first|(exact hS)|(exact hS.1)|(exact hS.2)|(exact hS.2.1)|(exact hS.2.2)|(exact hS.2.2.1)|(exact hS.2.2.2)|(exact hS.2.2.2.1)|(exact hS.2.2.2.2)|(exact hS.2.2.2.2.1)|(exact hS.2.2.2.2.2)) (by rfl)) ?_)|(refine zt_rd (want_L rfl) rfl (by decide) (fun _ hS=>r_load1 rfl (by first|(exact hS)|(exact hS.1)|(exact hS.2)|(exact hS.2.1)|(exact hS.2.2)|(exact hS.2.2.1)|(exact hS.2.2.2)|(exact hS.2.2.2.1)|(exact hS.2.2.2.2)|(exact hS.2.2.2.2.1)|(exact hS.2.2.2.2.2))) ?_)|(refine zt_rd (want_L rfl) rfl (by decide) (fun _ hS=>r_loadAB rfl (by first|(exact hS)|(exact hS.1)|(exact hS.2)|(exact hS.2.1)|(exact hS.2.2)|(exact hS.2.2.1)|(exact hS.2.2.2)|(exact hS.2.2.2.1)|(exact hS.2.2.2.2)|(exact hS.2.2.2.2.1)|(exact hS.2.2.2.2.2)) (by rfl)) ?_))|(show ZT _ _ _ _ _ _ _ ⟨_,(.fieldAddr _ _ _),_,_,_,_⟩ _ _ _; (refine zt_rd (want_L rfl) rfl (by decide) (fun _ hS=>r_fa rfl) ?_))|(show ZT _ _ _ _ _ _ _ ⟨_,(.indexAddr _ _ _),_,_,_,_⟩ _ _ _; (refine zt_rd (want_L rfl) rfl (by decide) (fun _ hS=>r_ia rfl rfl (by omega) (by omega)) ?_))|(show ZT _ _ _ _ _ _ _ ⟨_,(.call ⟨.builtin .len,_,_⟩),_,_,_,_⟩ _ _ _;first|(refine zt_rd (want_L rfl) rfl (by decide) (fun _ hS=>r_len rfl) ?_)|(refine zt_rd (want_L rfl) rfl (by decide) (fun _ hS=>r_lenL rfl) ?_)|(refine zt_rd (want_L rfl) rfl (by decide) (fun _ hS=>r_lenS rfl) ?_))|(show ZT _ _ _ _ _ _ _ ⟨_,(.binOp .add _ _ _ _),_,_,_,_⟩ _ _ _;first|(refine zt_rd (want_L rfl) rfl (by decide) (fun _ hS=>r_add rfl rfl (by omega) (by omega)) ?_)|(refine zt_rd (want_L rfl) rfl (by decide) (fun _ hS=>r_catL rfl rfl (by omega)) ?_)|(refine zt_rd (want_L rfl) rfl (by decide) (fun _ hS=>r_catL rfl rfl (by simp only [List.length_append,List.length_cons,List.length_nil];omega)) ?_))|(show ZT _ _ _ _ _ _ _ ⟨_,(.binOp .sub _ _ _ _),_,_,_,_⟩ _ _ _; (refine zt_rd (want_L rfl) rfl (by decide) (fun _ hS=>r_sub rfl rfl (by omega) (by omega)) ?_))|(show ZT _ _ _ _ _ _ _ ⟨_,(.index _ _ _),_,_,_,_⟩ _ _ _; (refine zt_rd (want_L rfl) rfl (by decide) (fun _ hS=>r_idxN rfl rfl (by omega)) ?_))|(show ZT _ _ _ _ _ _ _ ⟨_,(.binOp _ _ _ _ _),_,_,_,_⟩ _ _ _;first|(refine zt_rd (want_L rfl) rfl (by decide) (fun _ hS=>r_cmpB (r:=true) rfl rfl rfl (iff_of_true rfl (by omega))) ?_)|(refine zt_rd (want_L rfl) rfl (by decide) (fun _ hS=>r_cmpB (r:=false) rfl rfl rfl (iff_of_false Bool.false_ne_true (by omega))) ?_))|(show ZT _ _ _ _ _ _ _ ⟨_,_,_,_,_,some _⟩ _ _ _;refine zt_skip rfl ?_)))|(show ZS _ _ _ _ _ (.all1 _ _) _ _ _; (refine zs_alone rfl ?_;first|(show ZA _ _ _ _ _ _ _ ⟨_,(.move _),_,_,_,_⟩ _ _ _;refine za_pure rfl ?_)|(show ZA _ _ _ _ _ _ _ ⟨_,(.assign _),_,_,_,_⟩ _ _ _;refine za_pure rfl ?_)|(show ZA _ _ _ _ _ _ _ ⟨_,(.nilCheck _),_,_,_,_⟩ _ _ _;refine za_pure rfl ?_)|(show ZA _ _ _ _ _ _ _ ⟨_,(.pick _ _ _),_,_,_,_⟩ _ _ _;refine za_pure rfl ?_)|(show ZA _ _ _ _ _ _ _ ⟨_,(.extract _ _),_,_,_,_⟩ _ _ _;refine za_pure rfl ?_)|(show ZA _ _ _ _ _ _ _ ⟨_,(.unOp .not _ _),_,_,_,_⟩ _ _ _;refine za_pure rfl ?_)|(show ZA _ _ _ _ _ _ _ ⟨_,_,_,_,_,some _⟩ _ _ _;refine za_skip rfl ?_)))|(show ZS _ _ _ _ _ (.plain _ _) _ _ _;refine zs_plainL rfl rfl ?_)|(show ZS _ _ _ _ _ .fin _ _ _;refine zs_fin ?_))));exact q.q):X:=h ⟨q⟩
theorem zy {X Y:Prop} (q:Y) (h:Hq Y→X:=by intro q; (repeat (first|(show ZL _ _ _ _ _ _ _;first|(show ZL _ _ _ [] _ _ _;refine zN ?_)|(first|(show ZL _ _ _ (⟨_,(.move _),_,_,_,_⟩::_) _ _ _;refine zP rfl ?_)|(show ZL _ _ _ (⟨_,(.assign _),_,_,_,_⟩::_) _ _ _;refine zP rfl ?_)|(show ZL _ _ _ (⟨_,(.nilCheck _),_,_,_,_⟩::_) _ _ _;refine zP rfl ?_)|(show ZL _ _ _ (⟨_,(.pick _ _ _),_,_,_,_⟩::_) _ _ _;refine zP rfl ?_)|(show ZL _ _ _ (⟨_,(.extract _ _),_,_,_,_⟩::_) _ _ _;refine zP rfl ?_)|(show ZL _ _ _ (⟨_,(.unOp .not _ _),_,_,_,_⟩::_) _ _ _;refine zP rfl ?_)|(show ZL _ _ _ (⟨_,(.load _ _),_,_,_,_⟩::_) _ _ _;first|(refine zlB rfl ?_)|(refine zL1 rfl (by assumption) ?_)|(refine zlA rfl ?_))|(show ZL _ _ _ (⟨_,(.fieldAddr _ _ _),_,_,_,_⟩::_) _ _ _; (refine zfa rfl ?_))|(show ZL _ _ _ (⟨_,(.indexAddr _ _ _),_,_,_,_⟩::_) _ _ _; (refine zIa rfl rfl ?_))|(show ZL _ _ _ (⟨_,(.call ⟨.builtin .len,_,_⟩),_,_,_,_⟩::_) _ _ _;first|(refine zLn rfl ?_)|(refine zLL rfl ?_)|(refine z_lenS (want_L rfl) (by decide) rfl ?_))|(show ZL _ _ _ (⟨_,(.binOp .add _ _ _ _),_,_,_,_⟩::_) _ _ _;first|(refine zAd rfl rfl ?_)|(refine z_catL (want_L rfl) (by decide) rfl rfl (by omega) ?_)|(refine z_catL (want_L rfl) (by decide) rfl rfl (by simp only [List.length_append,List.length_cons,List.length_nil];omega) ?_))|(show ZL _ _ _ (⟨_,(.binOp .sub _ _ _ _),_,_,_,_⟩::_) _ _ _; (refine z_sub (want_L rfl) (by decide) rfl rfl (by omega) (by omega) ?_))|(show ZL _ _ _ (⟨_,(.index _ _ _),_,_,_,_⟩::_) _ _ _;first|(refine z_idxP (want_L rfl) (by decide) rfl rfl (by omega) ?_)|(refine z_idxM (want_L rfl) (by decide) rfl rfl (by omega) (by omega) ?_)|(refine z_idxC 0 (want_L rfl) (by decide) rfl rfl rfl (by omega) ?_)|(refine z_idxC 1 (want_L rfl) (by decide) rfl rfl rfl (by omega) ?_)|(refine zIx rfl rfl ?_)|(refine z_idxA (want_L rfl) (by decide) rfl rfl (by omega) ?_))|(show ZL _ _ _ (⟨_,(.binOp .eql _ _ _ _),_,_,_,_⟩::_) _ _ _;first|(refine zCT rfl rfl rfl ?_)|(refine zCF rfl rfl rfl ?_)|(refine zEq rfl rfl (fun hc=>absurd hc (by decide)) (fun _=> ?_))|(refine zEq rfl rfl (fun _=> ?_) (fun hc=>absurd hc (by decide)))|(refine zEq rfl rfl (fun hc=>absurd hc (by assumption)) (fun _=> ?_))|(refine zEq rfl rfl (fun _=> ?_) (fun hc=>absurd hc (by assumption)))|(refine zEq rfl rfl (fun _=> ?_) (fun hc=>absurd (by assumption) hc))|(refine zEq rfl rfl (fun hc=>absurd (by assumption) hc) (fun _=> ?_)))|(show ZL _ _ _ (⟨_,(.binOp .neq _ _ _ _),_,_,_,_⟩::_) _ _ _;first|(refine zCT rfl rfl rfl ?_)|(refine zCF rfl rfl rfl ?_)|(refine z_neL (want_L rfl) (by decide) rfl rfl (fun hc=>absurd hc (by decide)) (fun _=> ?_))|(refine z_neL (want_L rfl) (by decide) rfl rfl (fun _=> ?_) (fun hc=>absurd hc (by decide)))|(refine z_neL (want_L rfl) (by decide) rfl rfl (fun hc=>absurd hc (by assumption)) (fun _=> ?_))|(refine z_neL (want_L rfl) (by decide) rfl rfl (fun _=> ?_) (fun hc=>absurd hc (by assumption)))|(refine z_neL (want_L rfl) (by decide) rfl rfl (fun _=> ?_) (fun hc=>absurd (by assumption) hc))|(refine z_neL (want_L rfl) (by decide) rfl rfl (fun hc=>absurd (by assumption) hc) (fun _=> ?_)))|(show ZL _ _ _ (⟨_,(.binOp _ _ _ _ _),_,_,_,_⟩::_) _ _ _;first|(refine zCT rfl rfl rfl ?_)|(refine zCF rfl rfl rfl ?_))|(show ZL _ _ _ (⟨_,_,_,_,_,some _⟩::_) _ _ _;refine zJ rfl ?_)))|(show ZC _ _ _ _ _ _;first|(show ZC _ _ (.seq _ _) _ _ _;refine zS ?_)|(show ZC _ _ (.region _ _ false) _ _ _;refine zR ?_)|(show ZC _ _ (.block _ _) _ _ _;refine zB ?_)|(show ZC _ _ .skip _ _ _;refine zA ?_)|(show ZC _ _ (.exit _) _ _ _;refine zL ?_)|(show ZC _ _ .ret _ _ _;refine zE ?_)|(show ZC _ _ (.cond _ _ _) _ _ _;first|refine zT rfl ?_|refine zF rfl ?_))|(show ZK _ _ _ _ _;first|refine zK ?_|refine zX ?_|refine zQ ?_|refine zW ?_|refine zM ?_|refine zY ?_|refine zY' rfl ?_)|(show ZS _ _ _ _ _ _ _ _ _;first|(show ZS _ _ _ _ _ (.take _ _) _ _ _; (refine zs_take rfl ?_;first|(show ZT _ _ _ _ _ _ _ ⟨_,(.move _),_,_,_,_⟩ _ _ _;refine zt_pure rfl ?_)|(show ZT _ _ _ _ _ _ _ ⟨_,(.assign _),_,_,_,_⟩ _ _ _;refine zt_pure rfl ?_)|(show ZT _ _ _ _ _ _ _ ⟨_,(.nilCheck _),_,_,_,_⟩ _ _ _;refine zt_pure rfl ?_)|(show ZT _ _ _ _ _ _ _ ⟨_,(.pick _ _ _),_,_,_,_⟩ _ _ _;refine zt_pure rfl ?_)|(show ZT _ _ _ _ _ _ _ ⟨_,(.extract _ _),_,_,_,_⟩ _ _ _;refine zt_pure rfl ?_)|(show ZT _ _ _ _ _ _ _ ⟨_,(.unOp .not _ _),_,_,_,_⟩ _ _ _;refine zt_pure rfl ?_)|(show ZT _ _ _ _ _ _ _ ⟨_,(.load _ _),_,_,_,_⟩ _ _ _;first|(refine zt_rd (want_L rfl) rfl (by decide) (fun _ hS=>r_loadB rfl (by first|(exact hS)|(exact hS.1)|(exact hS.2)|(exact hS.2.1)|(exact hS.2.2)|(exact hS.2.2.1)|(exact hS.2.2.2)|(exact hS.2.2.2.1)|(exact hS.2.2.2.2)|(exact hS.2.2.2.2.1)|(exact hS.2.2.2.2.2)) (by rfl)) ?_)|(refine zt_rd (want_L rfl) rfl (by decide) (fun _ hS=>r_load1 rfl (by first|(exact hS)|(exact hS.1)|(exact hS.2)|(exact hS.2.1)|(exact hS.2.2)|(exact hS.2.2.1)|(exact hS.2.2.2)|(exact hS.2.2.2.1)|(exact hS.2.2.2.2)|(exact hS.2.2.2.2.1)|(exact hS.2.2.2.2.2))) ?_)|(refine zt_rd (want_L rfl) rfl (by decide) (fun _ hS=>r_loadAB rfl (by first|(exact hS)|(exact hS.1)|(exact hS.2)|(exact hS.2.1)|(exact hS.2.2)|(exact hS.2.2.1)|(exact hS.2.2.2)|(exact hS.2.2.2.1)|(exact hS.2.2.2.2)|(exact hS.2.2.2.2.1)|(exact hS.2.2.2.2.2)) (by rfl)) ?_))|(show ZT _ _ _ _ _ _ _ ⟨_,(.fieldAddr _ _ _),_,_,_,_⟩ _ _ _; (refine zt_rd (want_L rfl) rfl (by decide) (fun _ hS=>r_fa rfl) ?_))|(show ZT _ _ _ _ _ _ _ ⟨_,(.indexAddr _ _ _),_,_,_,_⟩ _ _ _; (refine zt_rd (want_L rfl) rfl (by decide) (fun _ hS=>r_ia rfl rfl (by omega) (by omega)) ?_))|(show ZT _ _ _ _ _ _ _ ⟨_,(.call ⟨.builtin .len,_,_⟩),_,_,_,_⟩ _ _ _;first|(refine zt_rd (want_L rfl) rfl (by decide) (fun _ hS=>r_len rfl) ?_)|(refine zt_rd (want_L rfl) rfl (by decide) (fun _ hS=>r_lenL rfl) ?_)|(refine zt_rd (want_L rfl) rfl (by decide) (fun _ hS=>r_lenS rfl) ?_))|(show ZT _ _ _ _ _ _ _ ⟨_,(.binOp .add _ _ _ _),_,_,_,_⟩ _ _ _;first|(refine zt_rd (want_L rfl) rfl (by decide) (fun _ hS=>r_add rfl rfl (by omega) (by omega)) ?_)|(refine zt_rd (want_L rfl) rfl (by decide) (fun _ hS=>r_catL rfl rfl (by omega)) ?_)|(refine zt_rd (want_L rfl) rfl (by decide) (fun _ hS=>r_catL rfl rfl (by simp only [List.length_append,List.length_cons,List.length_nil];omega)) ?_))|(show ZT _ _ _ _ _ _ _ ⟨_,(.binOp .sub _ _ _ _),_,_,_,_⟩ _ _ _; (refine zt_rd (want_L rfl) rfl (by decide) (fun _ hS=>r_sub rfl rfl (by omega) (by omega)) ?_))|(show ZT _ _ _ _ _ _ _ ⟨_,(.index _ _ _),_,_,_,_⟩ _ _ _; (refine zt_rd (want_L rfl) rfl (by decide) (fun _ hS=>r_idxN rfl rfl (by omega)) ?_))|(show ZT _ _ _ _ _ _ _ ⟨_,(.binOp .eql _ _ _ _),_,_,_,_⟩ _ _ _;first|(refine zt_rd (want_L rfl) rfl (by decide) (fun _ hS=>r_cmpB (r:=true) rfl rfl rfl (iff_of_true rfl (by omega))) ?_)|(refine zt_rd (want_L rfl) rfl (by decide) (fun _ hS=>r_cmpB (r:=false) rfl rfl rfl (iff_of_false Bool.false_ne_true (by omega))) ?_))|(show ZT _ _ _ _ _ _ _ ⟨_,(.binOp .neq _ _ _ _),_,_,_,_⟩ _ _ _;first|(refine zt_rd (want_L rfl) rfl (by decide) (fun _ hS=>r_cmpB (r:=true) rfl rfl rfl (iff_of_true rfl (by omega))) ?_)|(refine zt_rd (want_L rfl) rfl (by decide) (fun _ hS=>r_cmpB (r:=false) rfl rfl rfl (iff_of_false Bool.false_ne_true (by omega))) ?_))|(show ZT _ _ _ _ _ _ _ ⟨_,(.binOp _ _ _ _ _),_,_,_,_⟩ _ _ _;first|(refine zt_rd (want_L rfl) rfl (by decide) (fun _ hS=>r_cmpB (r:=true) rfl rfl rfl (iff_of_true rfl (by omega))) ?_)|(refine zt_rd (want_L rfl) rfl (by decide) (fun _ hS=>r_cmpB (r:=false) rfl rfl rfl (iff_of_false Bool.false_ne_true (by omega))) ?_))|(show ZT _ _ _ _ _ _ _ ⟨_,_,_,_,_,some _⟩ _ _ _;refine zt_skip rfl ?_)))|(show ZS _ _ _ _ _ (.all1 _ _) _ _ _; (refine zs_alone rfl ?_;first|(show ZA _ _ _ _ _ _ _ ⟨_,(.move _),_,_,_,_⟩ _ _ _;refine za_pure rfl ?_)|(show ZA _ _ _ _ _ _ _ ⟨_,(.assign _),_,_,_,_⟩ _ _ _;refine za_pure rfl ?_)|(show ZA _ _ _ _ _ _ _ ⟨_,(.nilCheck _),_,_,_,_⟩ _ _ _;refine za_pure rfl ?_)|(show ZA _ _ _ _ _ _ _ ⟨_,(.pick _ _ _),_,_,_,_⟩ _ _ _;refine za_pure rfl ?_)|(show ZA _ _ _ _ _ _ _ ⟨_,(.extract _ _),_,_,_,_⟩ _ _ _;refine za_pure rfl ?_)|(show ZA _ _ _ _ _ _ _ ⟨_,(.unOp .not _ _),_,_,_,_⟩ _ _ _;refine za_pure rfl ?_)|(show ZA _ _ _ _ _ _ _ ⟨_,_,_,_,_,some _⟩ _ _ _;refine za_skip rfl ?_)))|(show ZS _ _ _ _ _ (.plain _ _) _ _ _;refine zs_plainL rfl rfl ?_)|(show ZS _ _ _ _ _ .fin _ _ _;refine zs_fin ?_))));exact q.q):X:=h ⟨q⟩
end Go.Z
