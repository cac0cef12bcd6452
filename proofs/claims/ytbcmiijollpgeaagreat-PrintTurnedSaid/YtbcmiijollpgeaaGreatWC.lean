import Derived.Test.YtbcmiijollpgeaaGreatWB
set_option maxHeartbeats 32000000
set_option maxRecDepth 100000
set_option linter.unusedVariables false
set_option linter.unusedSimpArgs false
namespace Go.Proofs.YtbcmiijollpgeaaGreat.T
open Go Go.Z Go.Proofs
def RdW (w:World) (sz:Nat) (v:Value) (m:Nat) (cs:List Value):Prop:=
 cs.length=m*sz∧(∀u∈cs,u.oneCell'=true)∧ ∃A c,v= .slice A m c∧m≤c∧(0<m→ ∃b o,A=some ⟨b,o,none⟩∧ ∀j u,cs[j]? =some u→w.cell? ⟨b,o+j,none⟩=some u)
theorem RdW.of {w:World} {t sz m:Nat} {v:Value} {cs:List Value} (h:RdS w t sz v m cs):RdW w sz v m cs:=by
 obtain ⟨h1,h2,A,c,h3,h4,h5⟩:=h
 refine ⟨h1,h2,A,c,h3,h4,fun hm=> ?_⟩
 obtain ⟨b,o,cells,h6,h7,h8⟩:=h5 hm
 exact ⟨b,o,h6,fun j u hj=>by rw [h7.cell];exact h8 j u hj⟩
theorem RdW.no {w w':World} {sz m:Nat} {v:Value} {cs:List Value} (h:RdW w sz v m cs) (hc:Chg w w' No):RdW w' sz v m cs:=by
 obtain ⟨h1,h2,A,c,h3,h4,h5⟩:=h
 refine ⟨h1,h2,A,c,h3,h4,fun hm=> ?_⟩
 obtain ⟨b,o,h6,h7⟩:=h5 hm
 exact ⟨b,o,h6,fun j u hj=>cell_keep hc (h7 j u hj)⟩
theorem RdW.nil {w:World} {sz:Nat}:RdW w sz (.slice none 0 0) 0 []:=⟨by simp,by simp,none,0,rfl,Nat.le_refl _,fun h=>absurd h (Nat.lt_irrefl 0)⟩
def Rx (s:Bool) (w:World) (t sz:Nat) (v:Value) (m:Nat) (cs:List Value):Prop:=RdW w sz v m cs∧(s=true→RdS w t sz v m cs)
section
variable {s : Bool} {w w' : World} {t sz m : Nat} {v : Value} {cs : List Value}
theorem Rx.of (h:RdS w t sz v m cs):Rx s w t sz v m cs:=⟨RdW.of h,fun _=>h⟩
theorem Rx.no (h:Rx s w t sz v m cs) (hc:Chg w w' No):Rx s w' t sz v m cs:=⟨h.1.no hc,fun hs=>(h.2 hs).no hc⟩
theorem Rx.weak (h:Rx s w t sz v m cs):Rx false w t sz v m cs:=⟨h.1,fun h=>by cases h⟩
theorem Rx.nil:Rx s w t sz (.slice none 0 0) 0 []:=⟨RdW.nil,fun _=>RdS.nil⟩
theorem Rx.form (h:Rx s w t sz v m cs): ∃A c,v= .slice A m c∧m≤c:=by
 obtain ⟨⟨_,_,A,c,h3,h4,_⟩,_⟩:=h;exact ⟨A,c,h3,h4⟩
theorem Rx.some (h:Rx s w t sz v m cs) (hm:0<m): ∃b o c,v= .slice (some ⟨b,o,none⟩) m c∧m≤c∧ ∀j u,cs[j]? =Option.some u→w.cell? ⟨b,o+j,none⟩=Option.some u:=by
 obtain ⟨⟨_,_,A,c,h3,h4,h5⟩,_⟩:=h
 obtain ⟨b,o,h6,h7⟩:=h5 hm
 exact ⟨b,o,c,by rw [h3,h6],h4,h7⟩
end
abbrev At:=List UInt8×List UInt8
def at0:At:=([],[])
def encA:List At→List Value
 | []=> []
 |m::r=> .string (bs m.1):: .string (bs m.2)::encA r
theorem encA_len: ∀l:List At,(encA l).length=l.length*2
 | []=>rfl
 |m::r=>by simp [encA,encA_len r];omega
theorem encA_get: ∀(l:List At) (i:Nat),i<l.length→(encA l)[i*2]? =some (.string (bs (l.getD i at0).1))∧(encA l)[i*2+1]? =some (.string (bs (l.getD i at0).2))
 | [],i,h=>by simp at h
 |m::l,0,h=>by simp [encA]
 |m::l,i+1,h=>by
  have:=encA_get l i (by simpa using h)
  simpa [encA,show (i+1)*2=i*2+1+1 by omega,show i*2+1+1+1=(i*2+1)+1+1 by omega] using this
theorem encA_one: ∀(l:List At),∀u∈encA l,u.oneCell'=true
 | [],u,h=>by simp [encA] at h
 |m::r,u,h=>by
  simp only [encA,List.mem_cons] at h
  rcases h with rfl|rfl|h
  ·rfl
  ·rfl
  ·exact encA_one r u h
theorem encA_app: ∀l r:List At,encA (l++r)=encA l++encA r
 | [],r=>rfl
 |m::l,r=>by simp [encA,encA_app l r]
def AttrS (s:Bool) (w:World) (v:Value) (l:List At):Prop:=Rx s w 45 2 v l.length (encA l)
theorem AttrS.form {s:Bool} {w:World} {v:Value} {l:List At} (h:AttrS s w v l): ∃A c,v= .slice A l.length c∧l.length≤c:=Rx.form h
theorem AttrS.no {s:Bool} {w w':World} {v:Value} {l:List At} (h:AttrS s w v l) (hc:Chg w w' No):AttrS s w' v l:=Rx.no h hc
theorem AttrS.nil {s:Bool} (w:World):AttrS s w (.slice none 0 0) []:=Rx.nil
theorem AttrS.weak {s:Bool} {w:World} {v:Value} {l:List At} (h:AttrS s w v l):AttrS false w v l:=Rx.weak h
theorem AttrS.at_ {s:Bool} {w:World} {v:Value} {l:List At} (h:AttrS s w v l) (i:Nat) (hi:i<l.length): ∃b o c,v= .slice (some ⟨b,o,none⟩) l.length c∧w.cell? ⟨b,o+i*2,none⟩=some (.string (bs (l.getD i at0).1))∧w.cell? ⟨b,o+i*2+1,none⟩=some (.string (bs (l.getD i at0).2)):=by
 obtain ⟨b,o,c,hv,_,hc⟩:=Rx.some h (by omega)
 obtain ⟨e1,e2⟩:=encA_get l i hi
 exact ⟨b,o,c,hv,hc _ _ e1,by have:=hc _ _ e2;rwa [←Nat.add_assoc] at this⟩
structure Hd where
 name:List UInt8
 attrs:List At
 text:List UInt8
inductive AT where
 |nil
 |cons (x:Hd) (kids rest:AT)
def AT.len:AT→Nat
 | .nil=>0
 | .cons _ _ r=>r.len+1
def AT.size:AT→Nat
 | .nil=>0
 | .cons _ k r=>k.size+r.size+1
def AT.dropN:Nat→AT→AT
 |0,t=>t
 |_+1,.nil=> .nil
 |i+1,.cons _ _ r=>r.dropN i
def AT.app:AT→AT→AT
 | .nil,q=>q
 | .cons x k r,q=> .cons x k (r.app q)
theorem AT.len_size: ∀t:AT,t.len≤t.size
 | .nil=>Nat.le_refl _
 | .cons _ k r=>by have:=r.len_size;simp only [AT.len,AT.size];omega
theorem AT.drop_len: ∀t:AT,t.dropN t.len= .nil
 | .nil=>rfl
 | .cons _ k r=>r.drop_len
theorem AT.drop_size: ∀(t:AT) (i:Nat),(t.dropN i).size≤t.size
 |t,0=>Nat.le_refl _
 | .nil,i+1=>Nat.le_refl _
 | .cons _ k r,i+1=>by have:=r.drop_size i;simp only [AT.dropN,AT.size];omega
theorem AT.drop_succ: ∀(t:AT) (i:Nat) (x:Hd) (k r:AT),t.dropN i= .cons x k r→t.dropN (i+1)=r
 | .nil,0,x,k,r,h=>by cases h
 | .cons _ _ _,0,x,k,r,h=>by cases h;rfl
 | .nil,i+1,x,k,r,h=>by cases h
 | .cons _ _ q,i+1,x,k,r,h=>AT.drop_succ q i x k r h
theorem AT.app_len: ∀t q:AT,(t.app q).len=t.len+q.len
 | .nil,q=>by simp [AT.app,AT.len]
 | .cons _ _ r,q=>by have:=AT.app_len r q;simp only [AT.app,AT.len,this];omega
theorem AT.app_size: ∀t q:AT,(t.app q).size=t.size+q.size
 | .nil,q=>by simp [AT.app,AT.size]
 | .cons _ _ r,q=>by have:=AT.app_size r q;simp only [AT.app,AT.size,this];omega
structure MA where
 name:List UInt8
 attrs:Value
 text:List UInt8
 fr:Value
 kids:Value
def MA.z:MA:=⟨[],.slice none 0 0,[],.slice none 0 0,.slice none 0 0⟩
def MA.cells (m:MA):List Value:= [.string (bs m.name),m.attrs,.string (bs m.text),m.fr,m.kids]
def encM:List MA→List Value
 | []=> []
 |m::r=> .string (bs m.name)::m.attrs:: .string (bs m.text)::m.fr::m.kids::encM r
theorem encM_len: ∀l:List MA,(encM l).length=l.length*5
 | []=>rfl
 |m::r=>by simp [encM,encM_len r];omega
theorem encM_app: ∀l r:List MA,encM (l++r)=encM l++encM r
 | [],r=>rfl
 |m::l,r=>by simp [encM,encM_app l r]
theorem encM_get: ∀(l:List MA) (i:Nat),i<l.length→ ∀j u,(l.getD i MA.z).cells[j]? =some u→(encM l)[i*5+j]? =some u
 | [],i,h,j,u,hu=>by simp at h
 |m::l,0,h,j,u,hu=>by
  have hj:j<5:=(List.getElem?_eq_some_iff.1 hu).1
  simp only [List.getD_cons_zero] at hu
  match j,hj with
  |0,_|1,_|2,_|3,_|4,_=>simpa [encM,MA.cells] using hu
 |m::l,i+1,h,j,u,hu=>by
  have:=encM_get l i (by simpa using h) j u (by simpa using hu)
  rw [show (i+1)*5+j=i*5+j+1+1+1+1+1 by omega]
  simpa [encM] using this
def isSl (v:Value):Prop:= ∃A m c,v= .slice A m c
def HR (s:Bool) (w:World) (m:MA) (x:Hd):Prop:=m.name=x.name∧AttrS s w m.attrs x.attrs∧m.text=x.text∧isSl m.fr
def Rows (s:Bool) (w:World):AT→List MA→Prop
 | .nil,ms=>ms= []
 | .cons x k r,ms=> ∃m q,ms=m::q∧HR s w m x∧(∃ks,Rx s w 43 5 m.kids ks.length (encM ks)∧Rows s w k ks)∧Rows s w r q
def TreeAt (s:Bool) (w:World) (v:Value) (t:AT):Prop:= ∃ms,Rx s w 43 5 v ms.length (encM ms)∧Rows s w t ms
section
variable {s : Bool} {w w' : World} {v : Value} {t : AT}
theorem HR.no {m:MA} {x:Hd} (h:HR s w m x) (hc:Chg w w' No):HR s w' m x:=⟨h.1,h.2.1.no hc,h.2.2⟩
theorem Rows.no (hc:Chg w w' No): ∀(t:AT) (ms:List MA),Rows s w t ms→Rows s w' t ms
 | .nil,ms,h=>h
 | .cons x k r,ms,h=>by
  obtain ⟨m,q,h1,h2,⟨ks,h3,h4⟩,h5⟩:=h
  exact ⟨m,q,h1,h2.no hc,⟨ks,h3.no hc,Rows.no hc k ks h4⟩,Rows.no hc r q h5⟩
theorem Rows.weak: ∀(t:AT) (ms:List MA),Rows s w t ms→Rows false w t ms
 | .nil,ms,h=>h
 | .cons x k r,ms,h=>by
  obtain ⟨m,q,h1,h2,⟨ks,h3,h4⟩,h5⟩:=h
  exact ⟨m,q,h1,⟨h2.1,h2.2.1.weak,h2.2.2⟩,⟨ks,h3.weak,Rows.weak k ks h4⟩,Rows.weak r q h5⟩
theorem Rows.len: ∀(t:AT) (ms:List MA),Rows s w t ms→ms.length=t.len
 | .nil,ms,h=>by cases h;rfl
 | .cons x k r,ms,h=>by
  obtain ⟨m,q,h1,_,_,h5⟩:=h
  subst h1
  simp only [List.length_cons,AT.len,Rows.len r q h5]
theorem Rows.at_: ∀(t:AT) (ms:List MA) (i:Nat),Rows s w t ms→i<t.len→ ∃x k r,t.dropN i= .cons x k r∧HR s w (ms.getD i MA.z) x∧TreeAt s w (ms.getD i MA.z).kids k
 | .nil,ms,i,h,hi=>by simp [AT.len] at hi
 | .cons x k r,ms,0,h,hi=>by
  obtain ⟨m,q,rfl,h2,h3,h5⟩:=h
  exact ⟨x,k,r,rfl,h2,h3⟩
 | .cons x k r,ms,i+1,h,hi=>by
  obtain ⟨m,q,rfl,h2,h3,h5⟩:=h
  exact Rows.at_ r q i h5 (by simp only [AT.len] at hi;omega)
theorem TreeAt.no (h:TreeAt s w v t) (hc:Chg w w' No):TreeAt s w' v t:=by
 obtain ⟨ms,h1,h2⟩:=h
 exact ⟨ms,h1.no hc,Rows.no hc t ms h2⟩
theorem TreeAt.weak (h:TreeAt s w v t):TreeAt false w v t:=by
 obtain ⟨ms,h1,h2⟩:=h
 exact ⟨ms,h1.weak,Rows.weak t ms h2⟩
theorem TreeAt.form (h:TreeAt s w v t): ∃A c,v= .slice A t.len c∧t.len≤c:=by
 obtain ⟨ms,h1,h2⟩:=h
 have:=h1.form
 rwa [Rows.len t ms h2] at this
theorem TreeAt.nil:TreeAt s w (.slice none 0 0) .nil:=⟨[],Rx.nil,rfl⟩
structure ArtC (w:World) (b o:Nat) (x:Hd) (A F K:Value):Prop where
 c0:w.cell? ⟨b,o,none⟩=some (.string (bs x.name))
 c1:w.cell? ⟨b,o+1,none⟩=some A
 c2:w.cell? ⟨b,o+2,none⟩=some (.string (bs x.text))
 c3:w.cell? ⟨b,o+3,none⟩=some F
 c4:w.cell? ⟨b,o+4,none⟩=some K
theorem TreeAt.at_ (h:TreeAt s w v t) (i:Nat) (hi:i<t.len): ∃b o c x k r A F K,t.dropN i= .cons x k r∧v= .slice (some ⟨b,o,none⟩) t.len c∧ArtC w b (o+i*5) x A F K∧AttrS s w A x.attrs∧isSl F∧TreeAt s w K k:=by
 obtain ⟨ms,h1,h2⟩:=h
 have hlen:=Rows.len t ms h2
 obtain ⟨b,o,c,hv,_,hc⟩:=h1.some (by omega)
 obtain ⟨x,k,r,e1,⟨g0,g1,g2,g3⟩,e3⟩:=Rows.at_ t ms i h2 hi
 have hg:=encM_get ms i (by omega)
 refine ⟨b,o,c,x,k,r,(ms.getD i MA.z).attrs,(ms.getD i MA.z).fr,(ms.getD i MA.z).kids,e1,by rw [hv,hlen],?_,g1,g3,e3⟩
 constructor
 ·have:=hc _ _ (hg 0 _ rfl);rw [←g0];exact this
 ·have:=hc _ _ (hg 1 _ rfl);rw [Nat.add_assoc];exact this
 ·have:=hc _ _ (hg 2 _ rfl);rw [←g2];rw [Nat.add_assoc];exact this
 ·have:=hc _ _ (hg 3 _ rfl);rw [Nat.add_assoc];exact this
 ·have:=hc _ _ (hg 4 _ rfl);rw [Nat.add_assoc];exact this
theorem ArtC.no {b o:Nat} {x:Hd} {A F K:Value} (h:ArtC w b o x A F K) (hc:Chg w w' No):ArtC w' b o x A F K:=
 ⟨cell_keep hc h.c0,cell_keep hc h.c1,cell_keep hc h.c2,cell_keep hc h.c3,cell_keep hc h.c4⟩
theorem agg5 {b o o':Nat} {v0 v1 v2 v3 v4:Value} (h0:w.cell? ⟨b,o',none⟩=some v0) (h1:w.cell? ⟨b,o'+1,none⟩=some v1) (h2:w.cell? ⟨b,o'+2,none⟩=some v2) (h3:w.cell? ⟨b,o'+3,none⟩=some v3) (h4:w.cell? ⟨b,o'+4,none⟩=some v4) (he:o=o'): ∀j u,[v0,v1,v2,v3,v4][j]? =some u→w.cell? ((⟨b,o,none⟩:Addr).add j)=some u:=by
 subst he;intro j u hj;rw [addr_add]
 match j,hj with
 |0,hj=>simp at hj;subst hj;exact h0
 |1,hj=>simp at hj;subst hj;exact h1
 |2,hj=>simp at hj;subst hj;exact h2
 |3,hj=>simp at hj;subst hj;exact h3
 |4,hj=>simp at hj;subst hj;exact h4
theorem ArtC.agg {b o o':Nat} {x:Hd} {A F K:Value} (h:ArtC w b o' x A F K) (he:o=o'): ∀j u,[Value.string (bs x.name),A,.string (bs x.text),F,K][j]? =some u→w.cell? ((⟨b,o,none⟩:Addr).add j)=some u:=agg5 h.c0 h.c1 h.c2 h.c3 h.c4 he
end
def attrP (a:At):List UInt8:= [32]++a.1++ [61,34]++safeN true a.2++ [34]
def attrsS:List At→List UInt8
 | []=> []
 |a::r=>attrP a++attrsS r
def openS (n:List UInt8) (l:List At):List UInt8:= [60]++n++attrsS l++ [62]
def feedsS (s:List UInt8):Bool:=decide (s.head? =some 10)
def AT.feeds:AT→Bool
 | .nil=>false
 | .cons x _ _=>decide (x.name= []) && feedsS x.text
def nBr:List UInt8:= [98,114]
def nHr:List UInt8:= [104,114]
def nImg:List UInt8:= [105,109,103]
def nPre:List UInt8:= [112,114,101]
def AT.text:AT→List UInt8
 | .nil=> []
 | .cons x k r=>(if x.name= [] then safeN false x.text else openS x.name x.attrs++(if x.name=nBr∨x.name=nHr∨x.name=nImg then [] else
   (if x.name=nPre∧k.feeds=true then [10] else [])++k.text++ [60,47]++x.name++ [62]))++r.text
def attrsN:List At→Nat
 | []=>0
 |a::r=>a.1.length+6*a.2.length+4+attrsN r
def AT.wt:AT→Nat
 | .nil=>0
 | .cons x k r=>2*x.name.length+attrsN x.attrs+6*x.text.length+10+k.wt+r.wt
theorem attrs_len: ∀l:List At,(attrsS l).length≤attrsN l
 | []=>Nat.le_refl _
 |a::r=>by
  have:=attrs_len r;have:=safe_len true a.2
  simp only [attrsS,attrsN,attrP,List.length_append,List.length_cons,List.length_nil];omega
theorem text_len: ∀t:AT,t.text.length≤t.wt
 | .nil=>Nat.le_refl _
 | .cons x k r=>by
  have h1:=text_len k;have h2:=text_len r;have h3:=attrs_len x.attrs;have h4:=safe_len false x.text
  simp only [AT.text,AT.wt,List.length_append]
  split
  ·omega
  ·simp only [openS,List.length_append,List.length_cons,List.length_nil]
   split
   ·simp;omega
   ·simp only [List.length_append,List.length_cons,List.length_nil]
    split<;>simp<;>omega
theorem AT.drop_text: ∀(t:AT) (i:Nat),(t.dropN i).wt≤t.wt
 |t,0=>Nat.le_refl _
 | .nil,i+1=>Nat.le_refl _
 | .cons _ k r,i+1=>by have:=r.drop_text i;simp only [AT.dropN,AT.wt];omega
end Go.Proofs.YtbcmiijollpgeaaGreat.T
namespace Go.Z
open Go
section
variable {P : Program} {n : Nat} {e : Env} {w : World} {Q : Exit → Act → World → Prop} {ops : Array Oper} {rest : List Oper}
variable {d : Tmp} {ty : TypeId} {pos : String} {aft : Array Edge} {g : Option (Nat × Bool)}
theorem z_makeFunc {f:FuncId} {l:List Operand} {vs:List Value} (hw:Want ops e g) (hdn:d<n) (hx:evs e l=some vs) (h:ZL P n ops rest ((d,.func (.func f) vs.toArray #[])::e) w Q):
  ZL P n ops (⟨some d,.makeFunc (.func f) l.toArray #[],ty,pos,aft,g⟩::rest) e w Q:=
 zl_run hw rfl hdn (fun A hA=>by
  have hm:l.map A.eval=vs:=evs_map hA hx
  simp [execOp,Instr.makeFunc,hm]) h
theorem z_callF {dst:Option Tmp} {f:FuncId} {x:Operand} {l:List Operand} {ats:Array TypeId} {us vs:List Value} {R:Ending→World→Prop} [hf:IsFn P f] (hw:Want ops e g) (hd:dst=some d) (hdn:d<n) (hfx:ev e x=some (.func (.func f) us.toArray #[])) (hx:evs e l=some vs)
  (hc:Calls P f (us++vs).toArray w R) (h: ∀x w',R x w'→ ∃v,x= .returned v∧ZL P n ops rest ((d,v)::e) w' Q):
  ZL P n ops (⟨dst,.call {callee:= .value x,args:=l.toArray,argTypes:=ats},ty,pos,aft,g⟩::rest) e w Q:=by
 unfold ZL at*
 intro A hA
 subst hd
 obtain ⟨fn,h1,h2,h3⟩:=hf.ex
 refine wpList_step fun K hK=> ?_
 rw [if_pos (Want.wanted (o:=⟨some d,.call {callee:= .value x,args:=l.toArray,argTypes:=ats},ty,pos,aft,g⟩) hw hA)]
 unfold Oper.wp
 have hm:l.map A.eval=vs:=evs_map hA hx
 have hr:(execOp A.eval (⟨some d,.call {callee:= .value x,args:=l.toArray,argTypes:=ats},ty,pos,aft,g⟩:Oper)).run P w= .ok (.enter f (us++vs).toArray) w:=by
  have h2': ¬fn.name= "runtime.NumGoroutine" :=by simpa using h2
  have h3': ¬fn.body=none:=fun h=>by simp [h] at h3
  simp [execOp,resolve,hA.ev hfx,Deferred.ofValue,invoke,callFunc,h1,h2',h3',hm]
 rw [hr,Oper.upon_enter]
 refine hc.mono fun x w' hx=> ?_
 obtain ⟨v,rfl,hz⟩:=h x w' hx
 exact hK _ _ (hz _ (hA.put d v hdn))
end
end Go.Z
namespace Go.Proofs.YtbcmiijollpgeaaGreat.T
open Go Go.Z Go.Proofs
theorem dec10 (l:List UInt8) (h:0<l.length): ∃r n,Utf8.decode (bs l) 0=(r,n)∧(r=10↔l.head? =some 10)∧r≤1114111:=by
 obtain ⟨r,n,h1,h2,h3⟩:=readT_law (l.drop 0).length (byteL (l.drop 0) 0) (byteL (l.drop 0) 1) (byteL (l.drop 0) 2) (byteL (l.drop 0) 3) (by rw [List.drop_zero];exact h) (byte_le _ _) (byte_le _ _) (byte_le _ _) (byte_le _ _)
 refine ⟨r,n,by rw [decode_read l 0 h,h1],?_,h2⟩
 obtain ⟨c,q,rfl⟩: ∃c q,l=c::q:=by cases l with
  |nil=>simp at h
  |cons c q=>exact ⟨c,q,rfl⟩
 have hb:byteL ((c::q).drop 0) 0=c.toNat:=rfl
 rw [hb] at h3
 have e:c=10↔c.toNat=10:=⟨fun h=>by rw [h];rfl,fun h=>by
  have:c=UInt8.ofNat c.toNat:=by simp
  rw [this,h];rfl⟩
 simp only [List.head?_cons,Option.some.injEq,e]
 omega
theorem feeds_calls {w:World} (l:List UInt8):Calls Tryz.prog 68 [.string (bs l)].toArray w fun e w'=>e= .returned (.bool (feedsS l))∧Chg w w' No:=by
 refine zCz 12 Tryz.func68 ?_
 refine zz ?_
 refine z_range (want_L rfl) (by decide) rfl (fun w1 k hk hI hC=> ?_)
 refine zN (zK (zB ?_))
 refine zc_loopW (ι:=Nat) (fun p u=> [(0,.string (bs l)),(6,.pointer (some ⟨k,0,none⟩))]) (fun p u=>u=w1) (fun p u=>0) 0 rfl ?_ ?_
 ·exact ⟨rfl,rfl,trivial⟩
 rintro p u rfl
 by_cases hlt:0<l.length
 ·obtain ⟨r,n,hd,h10,hr⟩:=dec10 l hlt
  refine zS (zR ?_)
  refine z_next (want_L rfl) (by decide) rfl hI hlt (fun u1 hI1 hC1=> ?_)
  rw [hd] at hI1 ⊢
  dsimp only at hI1 ⊢
  have hCu:Chg w u1 No:=hC.trans hC1 (fun i hi he=>by subst he;omega)
  refine zz ?_
  by_cases hq:r=10
  ·subst hq
   refine zz ?_
   exact zk_ret1 (.inr rfl) rfl rfl ⟨by unfold feedsS;rw [decide_eq_true (h10.1 rfl)],hCu⟩
  ·refine zz ?_
   exact zk_ret1 (.inr rfl) rfl rfl ⟨by unfold feedsS;rw [decide_eq_false (fun h=>hq (h10.2 h))],hCu⟩
 ·obtain rfl:l= []:=List.eq_nil_of_length_eq_zero (by omega)
  refine zS (zR ?_)
  refine z_nextE (want_L rfl) (by decide) rfl hI (Nat.lt_irrefl _) ?_
  refine zz ?_
  exact zk_ret1 (.inr rfl) rfl rfl ⟨rfl,hC⟩
theorem attrs_drop (l:List At) (i:Nat) (h:i<l.length):attrsS (l.drop i)=attrP (l.getD i at0)++attrsS (l.drop (i+1))∧attrsN (l.drop i)=(l.getD i at0).1.length+6*(l.getD i at0).2.length+4+attrsN (l.drop (i+1)):=by
 have:l.drop i=l.getD i at0::l.drop (i+1):=by
  rw [List.drop_eq_getElem_cons h,List.getD_eq_getElem?_getD,List.getElem?_eq_getElem h];rfl
 rw [this]
 exact ⟨rfl,rfl⟩
theorem attrsN_drop: ∀(l:List At) (i:Nat),attrsN (l.drop i)≤attrsN l
 |l,0=>Nat.le_refl _
 | [],i+1=>Nat.le_refl _
 |a::r,i+1=>by have:=attrsN_drop r i;simp only [List.drop_succ_cons,attrsN];omega
theorem attrs_cnt: ∀l:List At,l.length≤attrsN l
 | []=>Nat.le_refl _
 |a::r=>by have:=attrs_cnt r;simp only [List.length_cons,attrsN];omega
theorem open_calls {w:World} {v:Value} {l:List At} (nm:List UInt8) (h:AttrS false w v l) (hl:nm.length+attrsN l≤big):Calls Tryz.prog 18 [.string (bs nm),v].toArray w fun e w'=>e= .returned (.string (bs (openS nm l)))∧Chg w w' No:=by
 have hbig:big=1000000000000:=rfl
 rw [hbig] at hl
 have hcl:=attrs_cnt l
 obtain ⟨A,c,rfl,hc⟩:=h.form
 refine zCz 30 Tryz.func18 ?_
 refine zz ?_
 refine zc_loopW (ι:=Nat×List UInt8) (fun q u=> [(5,.string (bs q.2)),(10,.slice A l.length c),(11,.int .i64 l.length),(12,.int .i64 q.1)])
  (fun q u=>q.1≤l.length∧q.2++attrsS (l.drop q.1)= [60]++nm++attrsS l∧Chg w u No) (fun q u=>l.length - q.1) (0,[60]++nm) ⟨Nat.zero_le _,rfl,Chg.refl _ _⟩ ?_ ?_
 ·exact ⟨rfl,rfl,rfl,rfl,trivial⟩
 rintro ⟨i,out⟩ u ⟨hi,hd,hC⟩
 dsimp only at hi hd hC ⊢
 have hol:out.length≤nm.length+attrsN l+1:=by
  have:=congrArg List.length hd
  have h2:=attrs_len l
  simp only [List.length_append,List.length_cons,List.length_nil] at this;omega
 by_cases hlt:i<l.length
 ·obtain ⟨b,o,c',hv,h0,h1⟩:=(h.no hC).at_ i hlt
  cases hv
  obtain ⟨e1,e2⟩:=attrs_drop l i hlt
  have e3:=attrsN_drop l i
  have hsl:=safe_len true (l.getD i at0).2
  rw [e1] at hd
  unfold attrP at hd
  generalize l.getD i at0=a at h0 h1 hd e2 hsl
  obtain ⟨ak,av⟩:=a
  dsimp only at h0 h1 hd e2 hsl
  refine zz ?_
  refine z_loadA (by rfl) (want_L rfl) (by decide) rfl (agg2 h0 h1 (by omega)) ?_
  refine zAl (fun u1 b1 hN1=> ?_)
  have hb1:Blk u1 b1 45 [.string ⟨#[]⟩,.string ⟨#[]⟩]:=hN1.blk
  refine z_store (want_L rfl) rfl rfl rfl (by assumption) (by first|exact Nat.le_refl _|simp [Value.cells]) (by simp [Value.cells,Value.oneCell']) (fun u2 hU2=> ?_)
  have hb2:Blk u2 b1 45 [.string (bs ak),.string (bs av)]:=hU2.blk
  have hC2:=hN1.chg.upd hU2 (hN1.ge (Chg.refl _ No))
  refine zN (zK ?_)
  refine zc_draw [] (fun w'=>w'.cell? ⟨b1,0,none⟩=some (.string (bs ak))∧w'.cell? ⟨b1,1,none⟩=some (.string (bs av))) (.take 0 (.take 1 (.take 2 (.take 3 (.take 4 (.take 5 (.take 6 (.all1 7 (.take 8 (.take 9 (.take 10 (.take 11 (.fin))))))))))))) (by rfl) (by kernel_rfl) (by kernel_rfl) (fun u3 hC3 _=>⟨?_,?_⟩)
  ·have hb3:=hb2.no hC3
   exact ⟨by simpa using hb3.cell 0,by simpa using hb3.cell 1⟩
  have hb3:=hb2.no hC3
  refine zz ?_
  refine zs_call rfl (want_L rfl) rfl (by decide) rfl (safe_calls av true (by rw [hbig];omega)) ?_
  rintro _ u4 ⟨rfl,hC4⟩
  have hb4:=hb3.no hC4
  refine ⟨_,rfl,⟨by simpa using hb4.cell 0,by simpa using hb4.cell 1⟩,?_⟩
  refine zz ?_
  exact zk_loopW (i+1,out++([32]++ak++ [61,34]++safeN true av++ [34])) ⟨by omega,by rw [←hd];simp only [List.append_assoc],((hC.no hC2).no hC3).no hC4⟩ (by show l.length - (i+1)<l.length - i;omega) ⟨rfl,rfl,rfl,get_int rfl (by simp),trivial⟩
 ·obtain rfl:i=l.length:=by omega
  rw [List.drop_length,show attrsS []= [] from rfl,List.append_nil] at hd
  refine zz ?_
  exact zk_ret1 (.inr rfl) rfl rfl ⟨by rw [hd];simp [openS],hC⟩
theorem Blk.sb {w w':World} {B b b3:Nat} {l:List UInt8} {cs:List Value} (h:Blk w b3 43 cs) (hB:Bd 57 w B b l) (hc:Chg w w' (Sb w B b)):Blk w' b3 43 cs:=by
 refine h.chg hc (fun hs=> ?_)
 rcases hs with hs|⟨_,cs',h5⟩
 ·obtain ⟨p,v,_,hb,_⟩:=hB
  exact h.ne hb (by decide) hs
 ·exact h.ne h5 (by decide) rfl
def AllC (t:AT):Prop:= ∀{w0 w:World} {v:Value} {b B:Nat} {l:List UInt8},TreeAt false w0 v t→Chg w0 w No→Bd 57 w B b l→w0.heap.size≤b→w0.heap.size≤B→B≤w.heap.size→l.length+t.wt≤big→
 Calls Tryz.prog 20 [.pointer (some ⟨b,0,none⟩),v].toArray w fun e w'=>e= .returned (.tuple #[])∧Bd 57 w' B b (l++t.text)∧Chg w w' (Sb w B b)
def oneS (x:Hd) (k:AT):List UInt8:=if x.name= [] then safeN false x.text else openS x.name x.attrs++(if x.name=nBr∨x.name=nHr∨x.name=nImg then [] else
   (if x.name=nPre∧k.feeds=true then [10] else [])++k.text++ [60,47]++x.name++ [62])
theorem Sb.no {w w':World} {B b:Nat} (h:Chg w w' No):Chg w w' (Sb w B b):=h.mono (fun _ _ h=>h.elim)
theorem one_calls {x:Hd} {k:AT} (hk:AllC k) {w0 w:World} {A F K:Value} {b B:Nat} {l:List UInt8} (hA:AttrS false w0 A x.attrs) (hF:isSl F) (hK:TreeAt false w0 K k) (hC:Chg w0 w No) (hB:Bd 57 w B b l) (hb:w0.heap.size≤b) (hBs:w0.heap.size≤B) (hBw:B≤w.heap.size)
  (hl:l.length+(2*x.name.length+attrsN x.attrs+6*x.text.length+10+k.wt)≤big):
  Calls Tryz.prog 41 [.pointer (some ⟨b,0,none⟩),.agg #[.string (bs x.name),A,.string (bs x.text),F,K]].toArray w fun e w'=>e= .returned (.tuple #[])∧Bd 57 w' B b (l++oneS x k)∧Chg w w' (Sb w B b):=by
 have hbig:big=1000000000000:=rfl
 rw [hbig] at hl
 obtain ⟨nm,at',tx⟩:=x
 dsimp only at hA hl ⊢
 obtain ⟨A1,c1,rfl,hc1⟩:=hA.form
 obtain ⟨A2,m2,c2,rfl⟩:=hF
 obtain ⟨A3,c3,rfl,hc3⟩:=hK.form
 have hob:=open_calls (w:=w) nm (hA.no hC) (by rw [hbig];omega)
 have hsl:=safe_len false tx
 have htl:=text_len k
 refine zCz 67 Tryz.func41 ?_
 refine zS (zR ?_)
 refine zBx rfl (fun w1 b3 hN1=> ?_)
 have hb1:Blk w1 b3 43 [.string (bs nm),.slice A1 at'.length c1,.string (bs tx),.slice A2 m2 c2,.slice A3 k.len c3]:=hN1.blk
 have hB1:=hB.no hN1.chg
 have hs1:=hN1.chg.size
 have hC1:=hC.no hN1.chg
 refine zz ?_
 refine zEq rfl rfl (fun hc=> ?_) (fun hc=> ?_)
 ·subst hc
  refine zz ?_
  refine zc_draw [] (fun w'=>w'.cell? ⟨b3,2,none⟩=some (.string (bs tx))) (.take 0 (.take 1 (.take 2 (.take 3 (.take 4 (.all1 5 (.all1 6 (.fin)))))))) (by rfl) (by kernel_rfl) (by kernel_rfl) (fun w2 hC2 _=>⟨?_,?_⟩)
  ·simpa using (hb1.no hC2).cell 2
  have hb2:=hb1.no hC2
  have hB2:=hB1.no hC2
  have hs2:=hC2.size
  refine zz ?_
  refine zs_call rfl (want_L rfl) rfl (by decide) rfl (safe_calls tx false (by rw [hbig];omega)) ?_
  rintro _ w3 ⟨rfl,hC3⟩
  have hb3:=hb2.no hC3
  have hB3:=hB2.no hC3
  have hs3:=hC3.size
  refine ⟨_,rfl,by simpa using hb3.cell 2,?_⟩
  refine zs_call rfl (want_L rfl) rfl (by decide) rfl (ws_calls (safeN false tx) hB3 (by omega) (by omega)) ?_
  rintro _ w4 ⟨rfl,hB4,hC4⟩
  have hb4:=Blk.sb hb3 hB3 hC4
  refine ⟨_,rfl,by simpa using hb4.cell 2,?_⟩
  refine zz ?_
  refine zk_ret0 (.inr rfl) rfl ⟨rfl,by unfold oneS;simpa using hB4,Sb.trans (Sb.no (((hN1.chg).no hC2).no hC3)) hC4⟩
 ·have hlo:(openS nm at').length≤nm.length+attrsN at'+2:=by
   have:=attrs_len at'
   simp only [openS,List.length_append,List.length_cons,List.length_nil];omega
  refine zz ?_
  refine zc_draw [] (fun w'=>w'.cell? ⟨b3,0,none⟩=some (.string (bs nm))∧w'.cell? ⟨b3,1,none⟩=some (.slice A1 at'.length c1)) (.take 0 (.take 1 (.take 2 (.take 3 (.take 4 (.take 5 (.take 6 (.all1 7 (.all1 8 (.fin)))))))))) (by rfl) (by kernel_rfl) (by kernel_rfl) (fun w2 hX2 _=>⟨?_,?_⟩)
  ·exact ⟨by simpa using (hb1.no hX2).cell 0,by simpa using (hb1.no hX2).cell 1⟩
  have hb2:=hb1.no hX2
  have hB2:=hB1.no hX2
  have hs2:=hX2.size
  have hC2:=hC1.no hX2
  refine zz ?_
  refine zs_call rfl (want_L rfl) rfl (by decide) rfl (open_calls (w:=w2) nm (hA.no hC2) (by rw [hbig];omega)) ?_
  rintro _ w3 ⟨rfl,hX3⟩
  have hb3:=hb2.no hX3
  have hB3:=hB2.no hX3
  have hs3:=hX3.size
  refine ⟨_,rfl,⟨by simpa using hb3.cell 0,by simpa using hb3.cell 1⟩,?_⟩
  refine zs_call rfl (want_L rfl) rfl (by decide) rfl (ws_calls (openS nm at') hB3 (by omega) (by omega)) ?_
  rintro _ w4 ⟨rfl,hB4,hX4⟩
  have hb4:=Blk.sb hb3 hB3 hX4
  have hs4:=hX4.size
  refine ⟨_,rfl,⟨by simpa using hb4.cell 0,by simpa using hb4.cell 1⟩,?_⟩
  have hC4:Chg w0 w4 No:=Chg.liftS (hC2.no hX3) hBs hb hX4
  have hS4:Chg w w4 (Sb w B b):=Sb.trans (Sb.no ((hN1.chg.no hX2).no hX3)) hX4
  refine zz ?_
  refine zEq (r:=nBr) rfl rfl (fun hbr=> ?_) (fun hbr=> ?_)
  ·refine zz ?_
   refine zk_ret0 (.inr rfl) rfl ⟨rfl,?_,hS4⟩
   have e:l++oneS ⟨nm,at',tx⟩ k=l++openS nm at':=by
    unfold oneS
    dsimp only
    rw [if_neg hc,if_pos (.inl hbr),List.append_nil]
   rw [e];exact hB4
  refine zz ?_
  refine zEq (r:=nHr) rfl rfl (fun hhr=> ?_) (fun hhr=> ?_)
  ·refine zz ?_
   refine zk_ret0 (.inr rfl) rfl ⟨rfl,?_,hS4⟩
   have e:l++oneS ⟨nm,at',tx⟩ k=l++openS nm at':=by
    unfold oneS
    dsimp only
    rw [if_neg hc,if_pos (.inr (.inl hhr)),List.append_nil]
   rw [e];exact hB4
  refine zz ?_
  refine zEq (r:=nImg) rfl rfl (fun him=> ?_) (fun him=> ?_)
  ·refine zz ?_
   refine zk_ret0 (.inr rfl) rfl ⟨rfl,?_,hS4⟩
   have e:l++oneS ⟨nm,at',tx⟩ k=l++openS nm at':=by
    unfold oneS
    dsimp only
    rw [if_neg hc,if_pos (.inr (.inr him)),List.append_nil]
   rw [e];exact hB4
  refine zz ?_
  refine zEq (r:=nPre) rfl rfl (fun hpre=> ?_) (fun hpre=> ?_)
  ·by_cases hk0:k.len=0
   ·have hkf:k.feeds=false:=by cases k<;>first|rfl|simp [AT.len] at hk0
    refine zz ?_
    refine zCl rfl (hk hK hC4 hB4 hb hBs (by omega) (by rw [hbig];simp only [List.length_append,List.length_cons,List.length_nil];omega)) ?_
    rintro _ v1 ⟨rfl,hD1,hE1⟩
    refine ⟨_,rfl,?_⟩
    have hc1:=Blk.sb hb4 hB4 hE1
    have ht1:=hE1.size
    refine zN (zK ?_)
    refine zc_draw [] (fun w'=>w'.cell? ⟨b3,0,none⟩=some (.string (bs nm))) (.take 0 (.take 1 (.take 2 (.take 3 (.take 4 (.take 5 (.take 6 (.all1 7 (.fin))))))))) (by rfl) (by kernel_rfl) (by kernel_rfl) (fun v2 hE2 _=>⟨?_,?_⟩)
    ·simpa using (hc1.no hE2).cell 0
    have hc2:=hc1.no hE2
    have hD2:=hD1.no hE2
    have ht2:=hE2.size
    refine zz ?_
    refine zs_call rfl (want_L rfl) rfl (by decide) rfl (ws_calls ([60,47]++nm++ [62]) hD2 (by simp only [List.length_append,List.length_cons,List.length_nil];omega) (by omega)) ?_
    rintro _ v3 ⟨rfl,hD3,hE3⟩
    have hc3:=Blk.sb hc2 hD2 hE3
    refine ⟨_,rfl,by simpa using hc3.cell 0,?_⟩
    refine zs_fin ?_
    refine zk_ret0 (.inl rfl) rfl ⟨rfl,?_,Sb.trans hS4 (Sb.trans (hE1.no hE2) hE3)⟩
    have e:l++oneS ⟨nm,at',tx⟩ k=(l++openS nm at')++k.text++([60,47]++nm++ [62]):=by
     unfold oneS
     dsimp only
     rw [if_neg hc,if_neg (by rintro (h|h|h);exact hbr h;exact hhr h;exact him h)]
     rw [hkf,if_neg (fun h=>by cases h.2)]
     simp only [List.append_assoc,List.nil_append]
    rw [e];exact hD3
   ·have hkl:0<k.len:=by omega
    obtain ⟨b5,o5,c5,x5,k5,r5,A5,F5,K5,e5,hv5,hN5,_⟩:=(hK.no hC4).at_ 0 hkl
    cases hv5
    have hc50:w4.cell? ⟨b5,o5,none⟩=some (.string (bs x5.name)):=by have:=hN5.c0;simpa using this
    have hc52:w4.cell? ⟨b5,o5+2,none⟩=some (.string (bs x5.text)):=by have:=hN5.c2;simpa using this
    have hkf:k.feeds=(decide (x5.name= []) && feedsS x5.text):=by
     have:k= .cons x5 k5 r5:=e5
     rw [this];rfl
    refine zz ?_
    refine zEq (r:= []) rfl rfl (fun h5=> ?_) (fun h5=> ?_)
    ·refine zz ?_
     refine zCr rfl (feeds_calls x5.text) fun w5 hX5=> ?_
     have hb5:=hb4.no hX5
     have hB5:=hB4.no hX5
     have hs5:=hX5.size
     have hC5:=hC4.no hX5
     have hS5:=hS4.no hX5
     by_cases hf:feedsS x5.text=true
     ·rw [hf]
      have hkf:k.feeds=true:=by rw [hkf,hf,h5];rfl
      refine zz ?_
      refine zCl rfl (wb_calls 10 hB5 (by simp only [List.length_append];omega) (by omega)) ?_
      rintro _ w6 ⟨rfl,hB6,hX6⟩
      refine ⟨_,rfl,?_⟩
      have hb6:=Blk.sb hb5 hB5 hX6
      have hs6:=hX6.size
      have hC6:Chg w0 w6 No:=Chg.liftS hC5 hBs hb hX6
      have hS6:=Sb.trans hS5 hX6
      refine zz ?_
      refine zCl rfl (hk hK hC6 hB6 hb hBs (by omega) (by rw [hbig];simp only [List.length_append,List.length_cons,List.length_nil];omega)) ?_
      rintro _ v1 ⟨rfl,hD1,hE1⟩
      refine ⟨_,rfl,?_⟩
      have hc1:=Blk.sb hb6 hB6 hE1
      have ht1:=hE1.size
      refine zN (zK ?_)
      refine zc_draw [] (fun w'=>w'.cell? ⟨b3,0,none⟩=some (.string (bs nm))) (.take 0 (.take 1 (.take 2 (.take 3 (.take 4 (.take 5 (.take 6 (.all1 7 (.fin))))))))) (by rfl) (by kernel_rfl) (by kernel_rfl) (fun v2 hE2 _=>⟨?_,?_⟩)
      ·simpa using (hc1.no hE2).cell 0
      have hc2:=hc1.no hE2
      have hD2:=hD1.no hE2
      have ht2:=hE2.size
      refine zz ?_
      refine zs_call rfl (want_L rfl) rfl (by decide) rfl (ws_calls ([60,47]++nm++ [62]) hD2 (by simp only [List.length_append,List.length_cons,List.length_nil];omega) (by omega)) ?_
      rintro _ v3 ⟨rfl,hD3,hE3⟩
      have hc3:=Blk.sb hc2 hD2 hE3
      refine ⟨_,rfl,by simpa using hc3.cell 0,?_⟩
      refine zs_fin ?_
      refine zk_ret0 (.inl rfl) rfl ⟨rfl,?_,Sb.trans hS6 (Sb.trans (hE1.no hE2) hE3)⟩
      have e:l++oneS ⟨nm,at',tx⟩ k=(l++openS nm at'++ [10])++k.text++([60,47]++nm++ [62]):=by
       unfold oneS
       dsimp only
       rw [if_neg hc,if_neg (by rintro (h|h|h);exact hbr h;exact hhr h;exact him h)]
       rw [if_pos ⟨hpre,hkf⟩]
       simp only [List.append_assoc,List.nil_append]
      rw [e];exact hD3
     ·have hf0:feedsS x5.text=false:=by simpa using hf
      rw [hf0]
      have hkf:k.feeds=false:=by rw [hkf,hf0,Bool.and_false]
      refine zz ?_
      refine zCl rfl (hk hK hC5 hB5 hb hBs (by omega) (by rw [hbig];simp only [List.length_append,List.length_cons,List.length_nil];omega)) ?_
      rintro _ v1 ⟨rfl,hD1,hE1⟩
      refine ⟨_,rfl,?_⟩
      have hc1:=Blk.sb hb5 hB5 hE1
      have ht1:=hE1.size
      refine zN (zK ?_)
      refine zc_draw [] (fun w'=>w'.cell? ⟨b3,0,none⟩=some (.string (bs nm))) (.take 0 (.take 1 (.take 2 (.take 3 (.take 4 (.take 5 (.take 6 (.all1 7 (.fin))))))))) (by rfl) (by kernel_rfl) (by kernel_rfl) (fun v2 hE2 _=>⟨?_,?_⟩)
      ·simpa using (hc1.no hE2).cell 0
      have hc2:=hc1.no hE2
      have hD2:=hD1.no hE2
      have ht2:=hE2.size
      refine zz ?_
      refine zs_call rfl (want_L rfl) rfl (by decide) rfl (ws_calls ([60,47]++nm++ [62]) hD2 (by simp only [List.length_append,List.length_cons,List.length_nil];omega) (by omega)) ?_
      rintro _ v3 ⟨rfl,hD3,hE3⟩
      have hc3:=Blk.sb hc2 hD2 hE3
      refine ⟨_,rfl,by simpa using hc3.cell 0,?_⟩
      refine zs_fin ?_
      refine zk_ret0 (.inl rfl) rfl ⟨rfl,?_,Sb.trans hS5 (Sb.trans (hE1.no hE2) hE3)⟩
      have e:l++oneS ⟨nm,at',tx⟩ k=(l++openS nm at')++k.text++([60,47]++nm++ [62]):=by
       unfold oneS
       dsimp only
       rw [if_neg hc,if_neg (by rintro (h|h|h);exact hbr h;exact hhr h;exact him h)]
       rw [hkf,if_neg (fun h=>by cases h.2)]
       simp only [List.append_assoc,List.nil_append]
      rw [e];exact hD3
    ·have hkf:k.feeds=false:=by rw [hkf,decide_eq_false h5];rfl
     refine zz ?_
     refine zCl rfl (hk hK hC4 hB4 hb hBs (by omega) (by rw [hbig];simp only [List.length_append,List.length_cons,List.length_nil];omega)) ?_
     rintro _ v1 ⟨rfl,hD1,hE1⟩
     refine ⟨_,rfl,?_⟩
     have hc1:=Blk.sb hb4 hB4 hE1
     have ht1:=hE1.size
     refine zN (zK ?_)
     refine zc_draw [] (fun w'=>w'.cell? ⟨b3,0,none⟩=some (.string (bs nm))) (.take 0 (.take 1 (.take 2 (.take 3 (.take 4 (.take 5 (.take 6 (.all1 7 (.fin))))))))) (by rfl) (by kernel_rfl) (by kernel_rfl) (fun v2 hE2 _=>⟨?_,?_⟩)
     ·simpa using (hc1.no hE2).cell 0
     have hc2:=hc1.no hE2
     have hD2:=hD1.no hE2
     have ht2:=hE2.size
     refine zz ?_
     refine zs_call rfl (want_L rfl) rfl (by decide) rfl (ws_calls ([60,47]++nm++ [62]) hD2 (by simp only [List.length_append,List.length_cons,List.length_nil];omega) (by omega)) ?_
     rintro _ v3 ⟨rfl,hD3,hE3⟩
     have hc3:=Blk.sb hc2 hD2 hE3
     refine ⟨_,rfl,by simpa using hc3.cell 0,?_⟩
     refine zs_fin ?_
     refine zk_ret0 (.inl rfl) rfl ⟨rfl,?_,Sb.trans hS4 (Sb.trans (hE1.no hE2) hE3)⟩
     have e:l++oneS ⟨nm,at',tx⟩ k=(l++openS nm at')++k.text++([60,47]++nm++ [62]):=by
      unfold oneS
      dsimp only
      rw [if_neg hc,if_neg (by rintro (h|h|h);exact hbr h;exact hhr h;exact him h)]
      rw [hkf,if_neg (fun h=>by cases h.2)]
      simp only [List.append_assoc,List.nil_append]
     rw [e];exact hD3
  ·refine zz ?_
   refine zCl rfl (hk hK hC4 hB4 hb hBs (by omega) (by rw [hbig];simp only [List.length_append,List.length_cons,List.length_nil];omega)) ?_
   rintro _ v1 ⟨rfl,hD1,hE1⟩
   refine ⟨_,rfl,?_⟩
   have hc1:=Blk.sb hb4 hB4 hE1
   have ht1:=hE1.size
   refine zN (zK ?_)
   refine zc_draw [] (fun w'=>w'.cell? ⟨b3,0,none⟩=some (.string (bs nm))) (.take 0 (.take 1 (.take 2 (.take 3 (.take 4 (.take 5 (.take 6 (.all1 7 (.fin))))))))) (by rfl) (by kernel_rfl) (by kernel_rfl) (fun v2 hE2 _=>⟨?_,?_⟩)
   ·simpa using (hc1.no hE2).cell 0
   have hc2:=hc1.no hE2
   have hD2:=hD1.no hE2
   have ht2:=hE2.size
   refine zz ?_
   refine zs_call rfl (want_L rfl) rfl (by decide) rfl (ws_calls ([60,47]++nm++ [62]) hD2 (by simp only [List.length_append,List.length_cons,List.length_nil];omega) (by omega)) ?_
   rintro _ v3 ⟨rfl,hD3,hE3⟩
   have hc3:=Blk.sb hc2 hD2 hE3
   refine ⟨_,rfl,by simpa using hc3.cell 0,?_⟩
   refine zs_fin ?_
   refine zk_ret0 (.inl rfl) rfl ⟨rfl,?_,Sb.trans hS4 (Sb.trans (hE1.no hE2) hE3)⟩
   have e:l++oneS ⟨nm,at',tx⟩ k=(l++openS nm at')++k.text++([60,47]++nm++ [62]):=by
    unfold oneS
    dsimp only
    rw [if_neg hc,if_neg (by rintro (h|h|h);exact hbr h;exact hhr h;exact him h)]
    rw [if_neg (fun h=>hpre h.1)]
    simp only [List.append_assoc,List.nil_append]
   rw [e];exact hD3
theorem drop_text (t:AT) (i:Nat) (x:Hd) (k r:AT) (h:t.dropN i= .cons x k r):(t.dropN i).text=oneS x k++(t.dropN (i+1)).text:=by
 rw [t.drop_succ i x k r h,h];rfl
theorem len_wt: ∀t:AT,t.len≤t.wt
 | .nil=>Nat.le_refl _
 | .cons x k r=>by have:=len_wt r;simp only [AT.len,AT.wt];omega
theorem all_calls: ∀(f:Nat) (t:AT),t.size≤f→AllC t:=by
 intro f
 have hbig:big=1000000000000:=rfl
 induction f with
 |zero=>
  intro t hs w0 w v b B l h hC hB hb hBs hBw hl
  cases t with
  |cons x k r=>simp [AT.size] at hs
  |nil=>
   obtain ⟨A,c,rfl,hc⟩:=h.form
   refine zCz 19 Tryz.func20 ?_
   refine zS (zR (zP rfl ?_))
   refine z_makeFunc (want_L rfl) (by decide) rfl ?_
   refine zz ?_
   refine zc_loopW (ι:=Nat) (fun i u=> [(9,.slice A 0 c),(10,.int .i64 0),(11,.int .i64 0)]) (fun i u=>u=w) (fun i u=>0) 0 rfl ?_ ?_
   ·exact ⟨rfl,rfl,rfl,trivial⟩
   rintro i u rfl
   refine zz ?_
   exact zk_ret0 (.inl rfl) rfl ⟨rfl,by simpa [AT.text] using hB,Chg.refl _ _⟩
 |succ f ih=>
  intro t hs w0 w v b B l h hC hB hb hBs hBw hl
  obtain ⟨A,c,hv,hc⟩:=h.form
  have hls:=t.len_size
  have hlw:=len_wt t
  subst hv
  rw [hbig] at hl
  refine zCz 19 Tryz.func20 ?_
  refine zS (zR (zP rfl ?_))
  refine z_makeFunc (want_L rfl) (by decide) rfl ?_
  refine zz ?_
  refine zc_loopW (ι:=Nat×List UInt8) (fun q u=> [(4,.func (.func 41) #[.pointer (some ⟨b,0,none⟩)] #[]),(9,.slice A t.len c),(10,.int .i64 t.len),(11,.int .i64 q.1)])
   (fun q u=>q.1≤t.len∧Bd 57 u B b (l++q.2)∧q.2++(t.dropN q.1).text=t.text∧q.2.length+(t.dropN q.1).wt≤t.wt∧Chg w0 u No∧Chg w u (Sb w B b)) (fun q u=>t.len - q.1) (0,[]) ⟨Nat.zero_le _,by simpa using hB,rfl,by simp [AT.dropN],hC,Chg.refl _ _⟩ ?_ ?_
  ·exact ⟨rfl,rfl,rfl,rfl,trivial⟩
  rintro ⟨i,out⟩ u ⟨hi,hB1,hd,hw,hCu,hSu⟩
  dsimp only at hi hB1 hd hw hCu hSu ⊢
  have hsu:=hSu.size
  by_cases hlt:i<t.len
  ·obtain ⟨b',o,c',x,k,r,A',F,K,e1,hv,hN,hA,hF,hK⟩:=h.at_ i hlt
   cases hv
   have hN:=hN.no hCu
   have hsz:=t.drop_size i
   have hdt:=drop_text t i x k r e1
   rw [hdt] at hd
   rw [e1] at hsz hw
   simp only [AT.size,AT.wt] at hsz hw
   have hds:=t.drop_succ i x k r e1
   obtain ⟨A2,c2,rfl,_⟩:=hA.form
   obtain ⟨A3,m3,c3,rfl⟩:=hF
   obtain ⟨A4,c4,rfl,_⟩:=hK.form
   refine zz ?_
   refine z_loadA (by rfl) (want_L rfl) (by decide) rfl (hN.agg (by omega)) ?_
   refine zAl (fun u1 b1 hN1=> ?_)
   have hb1:Blk u1 b1 43 [.string ⟨#[]⟩,.slice none 0 0,.string ⟨#[]⟩,.slice none 0 0,.slice none 0 0]:=hN1.blk
   refine z_store (want_L rfl) rfl rfl rfl (by assumption) (by first|exact Nat.le_refl _|simp [Value.cells]) (by simp [Value.cells,Value.oneCell']) (fun u2 hU2=> ?_)
   have hb2:Blk u2 b1 43 [.string (bs x.name),.slice A2 x.attrs.length c2,.string (bs x.text),.slice A3 m3 c3,.slice A4 k.len c4]:=hU2.blk
   have hC2:Chg u u2 No:=hN1.chg.upd hU2 (hN1.ge (Chg.refl _ No))
   have hs2:=hC2.size
   refine zz ?_
   have hcall:=one_calls (w:=u2) (B:=B) (b:=b) (l:=l++out) (ih k (by omega)) hA ⟨A3,m3,c3,rfl⟩ hK (hCu.no hC2) (hB1.no hC2) hb hBs (by omega) (by rw [List.length_append,hbig];omega)
   refine z_callF (us:= [.pointer (some ⟨b,0,none⟩)]) (want_L rfl) rfl (by decide) rfl rfl hcall ?_
   rintro _ u3 ⟨rfl,hB3,hX3⟩
   refine ⟨_,rfl,?_⟩
   have hS3:=Sb.trans (hSu.no hC2) hX3
   refine zz ?_
   have hone:(oneS x k).length≤2*x.name.length+attrsN x.attrs+6*x.text.length+10+k.wt:=by
    have:=text_len (.cons x k .nil)
    have e:(AT.cons x k .nil).text=oneS x k++ []:=rfl
    rw [e,List.append_nil] at this
    simpa [AT.wt] using this
   refine zk_loopW (i+1,out++oneS x k) ⟨by omega,by rw [←List.append_assoc];exact hB3,by rw [←hd,List.append_assoc],?_,Chg.liftS (hCu.no hC2) hBs hb hX3,hS3⟩ (by show t.len - (i+1)<t.len - i;omega) ⟨rfl,rfl,rfl,get_int rfl (by simp),trivial⟩
   dsimp only
   rw [hds,List.length_append];omega
  ·obtain rfl:i=t.len:=by omega
   rw [t.drop_len] at hd
   have hd':out=t.text:=by simpa [AT.text] using hd
   subst hd'
   refine zz ?_
   exact zk_ret0 (.inl rfl) rfl ⟨rfl,hB1,hSu⟩
theorem text_calls {w:World} {v:Value} {t:AT} (h:TreeAt false w v t) (hl:t.wt≤big):Calls Tryz.prog 8 [v].toArray w fun e w'=>e= .returned (.string (bs t.text))∧Chg w w' No:=by
 have hbig:big=1000000000000:=rfl
 obtain ⟨A,c,rfl,hc⟩:=h.form
 refine zCz 13 Tryz.func8 ?_
 refine zz ?_
 refine z_buildE #[.pointer none,.slice none 0 0] (want_L rfl) (by decide) rfl (by kernel_rfl) ?_
 refine zBx rfl (fun w1 b1 hN1=> ?_)
 have hb1:w.heap.size=b1:=hN1.at_.symm
 have hlt1:b1<w1.heap.size:=hN1.blk.lt
 have hB1:Bd 57 w1 (b1+1) b1 []:=Bd.fresh hN1.blk
 refine zz ?_
 refine zCl rfl (all_calls t.size t (Nat.le_refl _) h hN1.chg hB1 (by omega) (by omega) (by omega) (by simpa using hl)) ?_
 rintro _ w2 ⟨rfl,hB2,hX2⟩
 refine ⟨_,rfl,?_⟩
 rw [List.nil_append] at hB2
 have hs2:=hX2.size
 refine zz ?_
 refine zCr rfl (str_calls hB2 (by omega)) fun w3 hX3=> ?_
 refine zz ?_
 exact zk_ret1 (.inr rfl) rfl rfl ⟨rfl,Chg.liftS (Chg.liftS hN1.chg (by omega) (by omega) hX2) (by omega) (by omega) hX3⟩
theorem Rows.one {s:Bool} {w:World}: ∀(t:AT) (ms:List MA),Rows s w t ms→ ∀u∈encM ms,u.oneCell'=true
 | .nil,ms,h,u,hu=>by
  have:ms= []:=h
  subst this;simp [encM] at hu
 | .cons x k r,ms,h,u,hu=>by
  obtain ⟨m,q,rfl,⟨_,h2,_,A,n,c,h3⟩,⟨ks,h4,_⟩,h5⟩:=h
  obtain ⟨A1,c1,h6,_⟩:=h2.form
  obtain ⟨A2,c2,h7,_⟩:=h4.form
  simp only [encM,List.mem_cons] at hu
  rcases hu with rfl|rfl|rfl|rfl|rfl|hu
  ·rfl
  ·rw [h6];rfl
  ·rfl
  ·rw [h3];rfl
  ·rw [h7];rfl
  ·exact Rows.one r q h5 u hu
theorem tree_new {s:Bool} {w w':World} {b:Nat} {t:AT} {ms:List MA} (hN:New w w' b 43 (encM ms)) (hR:Rows s w t ms):TreeAt s w' (.slice (some ⟨b,0,none⟩) ms.length ms.length) t:=
 ⟨ms,Rx.of (RdS.new hN (encM_len ms) (Rows.one t ms hR)),Rows.no hN.chg t ms hR⟩
abbrev nS:Value:= .slice none 0 0
theorem isSl_nil:isSl nS:=⟨none,0,0,rfl⟩
theorem rows_cons {s:Bool} {w:World} {nm tx:List UInt8} {A K:Value} {l:List At} {k r:AT} {q:List MA} (hA:AttrS s w A l) (hK:TreeAt s w K k) (hr:Rows s w r q):Rows s w (.cons ⟨nm,l,tx⟩ k r) (⟨nm,A,tx,nS,K⟩::q):=
 ⟨_,q,rfl,⟨rfl,hA,rfl,isSl_nil⟩,hK,hr⟩
theorem rows_nil {s:Bool} {w:World}:Rows s w .nil []:=rfl
abbrev aT (tx:List UInt8):AT:= .cons ⟨[],[],tx⟩ .nil .nil
abbrev aN (nm:List UInt8) (k:AT):AT:= .cons ⟨nm,[],[]⟩ k .nil
theorem att_new {s:Bool} {w w':World} {b:Nat} {l:List At} (hN:New w w' b 45 (encA l)):AttrS s w' (.slice (some ⟨b,0,none⟩) l.length l.length) l:=
 Rx.of (RdS.new hN (encA_len l) (encA_one l))
theorem known_calls {w:World}:Calls Tryz.prog 6 ([]:List Value).toArray w fun e w'=>e= .returned (.bool true)∧Chg w w' No:=by
 have hbig:big=1000000000000:=rfl
 refine zCz 12 Tryz.func6 ?_
 refine zz ?_
 refine z_buildE #[.string (bs nHr),nS,.string (bs []),nS,nS] (want_L rfl) (by decide) rfl (by kernel_rfl) ?_
 refine z_buildE #[.string (bs []),nS,.string (bs [13]),nS,nS] (want_L rfl) (by decide) rfl (by kernel_rfl) ?_
 refine z_bsE (encM [⟨nHr,nS,[],nS,nS⟩,⟨[],nS,[13],nS,nS⟩]) (want_L rfl) (by decide) rfl (by decide) (by decide) (by kernel_rfl) (fun w1 b1 hN1=> ?_)
 have hT1:=tree_new (s:=true) hN1 (rows_cons (nm:=nHr) (tx:= []) (AttrS.nil w) TreeAt.nil (rows_cons (nm:= []) (tx:= [13]) (AttrS.nil w) TreeAt.nil rows_nil))
 refine zCr rfl (text_calls hT1.weak (by decide)) fun w2 hC2=> ?_
 refine zEq (r:= [60,104,114,62,38,35,49,51,59]) rfl rfl (fun hc=> ?_) (fun hc=>absurd (by decide) hc)
 refine zP rfl ?_
 refine z_buildE #[.string (bs [98]),.string (bs [34])] (want_L rfl) (by decide) rfl (by kernel_rfl) ?_
 refine z_bsE (encA [([98],[34])]) (want_L rfl) (by decide) rfl (by decide) (by decide) (by kernel_rfl) (fun w3 b3 hN3=> ?_)
 have hA3:=att_new (s:=false) hN3
 refine zCr rfl (open_calls [97] hA3 (by decide)) fun w4 hC4=> ?_
 refine zEq (r:= [60,97,32,98,61,34,38,113,117,111,116,59,34,62]) rfl rfl (fun hc=> ?_) (fun hc=>absurd (by decide) hc)
 refine zz ?_
 exact zk_ret1 (.inr rfl) rfl rfl ⟨rfl,((hN1.chg.no hC2).no hN3.chg).no hC4⟩
theorem tmod_emod (a:Int) (n:Nat) (hn:0<n):(0≤a.tmod n∧a.tmod n=a%n∧a.tmod n<n)∨(a.tmod n<0∧a.tmod n+n=a%n∧ -(n:Int)<a.tmod n):=by
 have h1:=Int.emod_nonneg a (show (n:Int)≠0 by omega)
 have h2:=Int.emod_lt_of_pos a (show (0:Int)<n by omega)
 have h3:=Int.tmod_lt_of_pos a (show (0:Int)<n by omega)
 have h4: -(n:Int)<a.tmod n:=by
  have:=Int.tmod_lt_of_pos (-a) (show (0:Int)<n by omega)
  rw [Int.neg_tmod] at this;omega
 have h5:((n:Int)) ∣ (a%n - a.tmod n):=by
  have e1:=Int.emod_add_mul_ediv a n
  have e2:=Int.tmod_add_mul_tdiv a n
  refine ⟨a.tdiv n - a / n,?_⟩
  rw [Int.mul_sub];omega
 obtain ⟨q,hq⟩:=h5
 have hq0: -1<q:=by
  apply Int.lt_of_not_ge;intro hge
  have:(n:Int)*q≤(n:Int)*(-1):=Int.mul_le_mul_of_nonneg_left hge (by omega)
  omega
 have hq1:q<2:=by
  apply Int.lt_of_not_ge;intro hge
  have:(n:Int)*2≤(n:Int)*q:=Int.mul_le_mul_of_nonneg_left hge (by omega)
  omega
 have:q=0∨q=1:=by omega
 rcases this with rfl|rfl
 ·left;omega
 ·right;omega
def blankN (c:Nat):Bool:=decide (c=9∨c=10∨c=12∨c=13∨c=32)
theorem blankR_calls {w:World} (c:Nat):Calls Tryz.prog 58 [.int .u8 c].toArray w fun e w'=>e= .returned (.bool (blankN c))∧w'=w:=by
 unfold blankN
 refine zCz 21 Tryz.func58 ?_
 refine zz ?_
 by_cases h:c=9∨c=10∨c=12∨c=13∨c=32
 ·rw [decide_eq_true h]
  rcases h with rfl|rfl|rfl|rfl|rfl
  ·refine zz ?_
   exact zk_ret1 (.inr rfl) rfl rfl ⟨rfl,rfl⟩
  ·refine zz ?_
   exact zk_ret1 (.inr rfl) rfl rfl ⟨rfl,rfl⟩
  ·refine zz ?_
   exact zk_ret1 (.inr rfl) rfl rfl ⟨rfl,rfl⟩
  ·refine zz ?_
   exact zk_ret1 (.inr rfl) rfl rfl ⟨rfl,rfl⟩
  ·refine zz ?_
   exact zk_ret1 (.inr rfl) rfl rfl ⟨rfl,rfl⟩
 ·rw [decide_eq_false h]
  refine zz ?_
  exact zk_ret1 (.inr rfl) rfl rfl ⟨rfl,rfl⟩
def wordsN (cur:List UInt8):List UInt8→List (List UInt8)
 | []=>if cur= [] then [] else [cur]
 |c::r=>if blankN c.toNat=true then (if cur= [] then wordsN [] r else cur::wordsN [] r) else wordsN (cur++ [c]) r
def cellsS (ss:List (List UInt8)):List Value:=ss.map fun l=> .string (bs l)
theorem cellsS_len (ss:List (List UInt8)):(cellsS ss).length=ss.length:=by simp [cellsS]
theorem cellsS_app (l r:List (List UInt8)):cellsS (l++r)=cellsS l++cellsS r:=by simp [cellsS]
theorem cellsS_one (ss:List (List UInt8)): ∀u∈cellsS ss,u.oneCell'=true:=by
 intro u hu
 simp only [cellsS,List.mem_map] at hu
 obtain ⟨b,_,rfl⟩:=hu
 rfl
theorem cellsS_at (ss:List (List UInt8)) (i:Nat) (h:i<ss.length):(cellsS ss)[i]? =some (.string (bs (ss.getD i []))):=by
 simp [cellsS,List.getD_eq_getElem?_getD,List.getElem?_eq_getElem h]
theorem rowge {v v':Value} {B n:Nat} (hv: ∀k,v.ownBlock=some k→B≤k) (hr:v'.ownBlock=v.ownBlock∨ ∃k,v'.ownBlock=some k∧n≤k) (hn:B≤n): ∀k,v'.ownBlock=some k→B≤k:=fun k hk=>by
 rcases hr with h1|⟨q,h1,h2⟩
 ·exact hv k (h1▸hk)
 ·rw [hk] at h1;cases h1;omega
theorem wordsR_calls {w:World} {l:List UInt8} (hl:l.length≤100000):Calls Tryz.prog 32 [.string (bs l)].toArray w fun e w'=> ∃v,e= .returned v∧Own w' 9 1 v (wordsN [] l).length (cellsS (wordsN [] l))∧Chg w w' No:=by
 refine zCz 36 Tryz.func32 ?_
 refine zz ?_
 refine zc_loopW (ι:=Nat×Nat×Value×List (List UInt8)) (fun q u=> [(0,.string (bs l)),(3,q.2.2.1),(4,.int .i64 q.2.1),(5,.int .i64 q.1)])
  (fun q u=>q.1≤l.length+1∧q.2.1≤q.1∧Chg w u No∧Own u 9 1 q.2.2.1 q.2.2.2.length (cellsS q.2.2.2)∧(∀k,q.2.2.1.ownBlock=some k→w.heap.size≤k)∧q.2.2.2.length≤q.2.1∧
   (q.1≤l.length→q.2.2.2++wordsN ((l.drop q.2.1).take (q.1 - q.2.1)) (l.drop q.1)=wordsN [] l)∧(q.1=l.length+1→q.2.2.2=wordsN [] l)) (fun q u=>l.length+1 - q.1) (0,0,.slice none 0 0,[])
  ⟨Nat.zero_le _,Nat.le_refl _,Chg.refl _ _,Own.nil,(fun k hk=>by cases hk),Nat.le_refl _,fun _=>rfl,fun h=>by simp at h⟩ ?_ ?_
 ·exact ⟨rfl,rfl,rfl,rfl,trivial⟩
 rintro ⟨i,from',v,out⟩ u ⟨hi,hf,hC,hO,hv,hol,hd,he⟩
 dsimp only at hi hf hC hO hv hol hd he ⊢
 by_cases hend:i=l.length+1
 ·have he:=he hend
  subst he
  refine zz ?_
  exact zk_ret1 (.inr rfl) rfl rfl ⟨_,rfl,hO,hC⟩
 have hil:i≤l.length:=by omega
 have hd:=hd hil
 -- the word that ends here
 have hcut: ∀rest:List UInt8,(i<l.length∧blankN (byteL l i)=true∧rest=l.drop (i+1))∨(i=l.length∧rest= [])→wordsN ((l.drop from').take (i - from')) (l.drop i)=(if i>from' then [(l.drop from').take (i - from')] else [])++wordsN [] rest:=by
  intro rest hr
  have hlen:((l.drop from').take (i - from')).length=i - from':=by rw [List.length_take,List.length_drop];omega
  have hnil:(l.drop from').take (i - from')= []↔ ¬i>from':=by
   constructor
   ·intro h;rw [h] at hlen;simp at hlen;omega
   ·intro h;rw [show i - from'=0 by omega];rfl
  rcases hr with ⟨h1,h2,rfl⟩|⟨h1,rfl⟩
  ·rw [drop_cons0 l i h1]
   show (if blankN (l.getD i 0).toNat=true then (if _= [] then _ else _) else _)=_
   rw [if_pos (show blankN (l.getD i 0).toNat=true from h2)]
   by_cases hq:i>from'
   ·rw [if_pos hq,if_neg (fun h=>(hnil.1 h) hq)];rfl
   ·rw [if_neg hq,if_pos (hnil.2 hq)];rfl
  ·rw [h1,List.drop_length,←h1]
   show (if _= [] then _ else _)=_
   by_cases hq:i>from'
   ·rw [if_pos hq,if_neg (fun h=>(hnil.1 h) hq)];rfl
   ·rw [if_neg hq,if_pos (hnil.2 hq)];rfl
 have hmid:i=l.length∨(i<l.length∧blankN (byteL l i)=true)∨(i<l.length∧blankN (byteL l i)=false):=by
  by_cases h1:i=l.length
  ·exact .inl h1
  ·cases hb:blankN (byteL l i)
   ·exact .inr (.inr ⟨by omega,rfl⟩)
   ·exact .inr (.inl ⟨by omega,rfl⟩)
 have hstop: ∀u2,Chg u u2 No→(i=l.length∨(i<l.length∧blankN (byteL l i)=true))→out++((if i>from' then [(l.drop from').take (i - from')] else [])++(if i<l.length then wordsN [] (l.drop (i+1)) else []))=wordsN [] l:=fun u2 _ hs=>by
  rw [←hd]
  rcases hs with h1|⟨h1,h2⟩
  ·rw [hcut [] (.inr ⟨h1,rfl⟩),if_neg (show¬i<l.length by omega)];rfl
  ·rw [hcut _ (.inl ⟨h1,h2,rfl⟩),if_pos (show i<l.length from h1)]
 have hfin: ∀(v':Value) (out':List (List UInt8)),out'=out++(if i>from' then [(l.drop from').take (i - from')] else [])→(i=l.length∨(i<l.length∧blankN (byteL l i)=true))→
   (i+1≤l.length→out'++wordsN ((l.drop (i+1)).take (i+1 - (i+1))) (l.drop (i+1))=wordsN [] l)∧(i+1=l.length+1→out'=wordsN [] l):=by
  intro v' out' ho hs
  have h:=hstop u (Chg.refl _ _) hs
  refine ⟨fun h1=> ?_,fun h1=> ?_⟩
  ·rw [Nat.sub_self,List.take_zero,ho,←h,if_pos (show i<l.length by omega),List.append_assoc]
  ·rw [ho,←h,if_neg (show¬i<l.length by omega),List.append_nil]
 rcases hmid with h1|⟨h1,h2⟩|⟨h1,h2⟩
 ·by_cases hq:i>from'
  ·refine zz ?_
   refine z_cutN from' i (want_L rfl) (by decide) rfl rfl rfl rfl rfl (by omega) (by omega) ?_
   refine zB1 rfl (fun w1 b1 hN1=> ?_)
   have hr:RdS w1 9 1 (.slice (some ⟨b1,0,none⟩) 1 1) 1 (cellsS [(l.drop from').take (i - from')]):=RdS.new hN1 rfl (cellsS_one _)
   refine z_appendO (by rfl) (by decide) (want_L rfl) (by decide) rfl rfl (hO.no hN1.chg) hr (by omega) (by omega) (fun v2 w2 hO2 hC2 hr2=> ?_)
   rw [←cellsS_app,show out.length+1=(out++ [(l.drop from').take (i - from')]).length by simp] at hO2
   have hv2:=rowge hv hr2 (by have:=hC.size;have:=hN1.size;omega)
   have hC3:=(hC.no hN1.chg).trans hC2 (fun j hj hs=>by have:=hv j hs;omega)
   obtain ⟨g1,g2⟩:=hfin v2 _ (by rw [if_pos hq]) (.inl h1)
   refine zz ?_
   exact zk_loopW (i+1,i+1,v2,out++ [(l.drop from').take (i - from')]) ⟨by dsimp only;omega,Nat.le_refl _,hC3,hO2,hv2,by simp;omega,g1,g2⟩ (by simp;omega) ⟨rfl,rfl,get_int rfl (by simp),get_int rfl (by simp),trivial⟩
  ·obtain ⟨g1,g2⟩:=hfin v out (by rw [if_neg hq,List.append_nil]) (.inl h1)
   refine zz ?_
   exact zk_loopW (i+1,i+1,v,out) ⟨by dsimp only;omega,Nat.le_refl _,hC,hO,hv,by dsimp only;omega,g1,g2⟩ (by simp;omega) ⟨rfl,rfl,get_int rfl (by simp),get_int rfl (by simp),trivial⟩
 ·by_cases hq:i>from'
  ·refine zz ?_
   refine zCl rfl (blankR_calls (byteL l i)) ?_
   rintro _ w1' ⟨rfl,rfl⟩
   refine ⟨_,rfl,?_⟩
   rw [h2]
   refine zz ?_
   refine z_cutN from' i (want_L rfl) (by decide) rfl rfl rfl rfl rfl (by omega) (by omega) ?_
   refine zB1 rfl (fun w1 b1 hN1=> ?_)
   have hr:RdS w1 9 1 (.slice (some ⟨b1,0,none⟩) 1 1) 1 (cellsS [(l.drop from').take (i - from')]):=RdS.new hN1 rfl (cellsS_one _)
   refine z_appendO (by rfl) (by decide) (want_L rfl) (by decide) rfl rfl (hO.no hN1.chg) hr (by omega) (by omega) (fun v2 w2 hO2 hC2 hr2=> ?_)
   rw [←cellsS_app,show out.length+1=(out++ [(l.drop from').take (i - from')]).length by simp] at hO2
   have hv2:=rowge hv hr2 (by have:=hC.size;have:=hN1.size;omega)
   have hC3:=(hC.no hN1.chg).trans hC2 (fun j hj hs=>by have:=hv j hs;omega)
   obtain ⟨g1,g2⟩:=hfin v2 _ (by rw [if_pos hq]) (.inr ⟨h1,h2⟩)
   refine zz ?_
   exact zk_loopW (i+1,i+1,v2,out++ [(l.drop from').take (i - from')]) ⟨by dsimp only;omega,Nat.le_refl _,hC3,hO2,hv2,by simp;omega,g1,g2⟩ (by simp;omega) ⟨rfl,rfl,get_int rfl (by simp),get_int rfl (by simp),trivial⟩
  ·obtain ⟨g1,g2⟩:=hfin v out (by rw [if_neg hq,List.append_nil]) (.inr ⟨h1,h2⟩)
   refine zz ?_
   refine zCl rfl (blankR_calls (byteL l i)) ?_
   rintro _ w1' ⟨rfl,rfl⟩
   refine ⟨_,rfl,?_⟩
   rw [h2]
   refine zz ?_
   exact zk_loopW (i+1,i+1,v,out) ⟨by dsimp only;omega,Nat.le_refl _,hC,hO,hv,by dsimp only;omega,g1,g2⟩ (by simp;omega) ⟨rfl,rfl,get_int rfl (by simp),get_int rfl (by simp),trivial⟩
 ·refine zz ?_
  refine zCl rfl (blankR_calls (byteL l i)) ?_
  rintro _ w1' ⟨rfl,rfl⟩
  refine ⟨_,rfl,?_⟩
  rw [h2]
  refine zz ?_
  refine zk_loopW (i+1,from',v,out) ⟨by dsimp only;omega,by dsimp only;omega,hC,hO,hv,hol,fun _=> ?_,fun h=>by dsimp only at h;omega⟩ (by simp;omega) ⟨rfl,rfl,rfl,get_int rfl (by simp),trivial⟩
  dsimp only
  rw [←hd,drop_cons0 l i h1]
  show _=out++(if blankN (l.getD i 0).toNat=true then _ else wordsN ((l.drop from').take (i - from')++ [l.getD i 0]) (l.drop (i+1)))
  rw [if_neg (by show¬blankN (byteL l i)=true;rw [h2];exact Bool.false_ne_true)]
  congr 2
  rw [show i+1 - from'=(i - from')+1 by omega,List.take_succ_eq_append_getElem (by rw [List.length_drop];omega)]
  congr 2
  rw [List.getElem_drop,List.getD_eq_getElem?_getD,List.getElem?_eq_getElem h1]
  simp [show from'+(i - from')=i by omega]
def IsRow (k:IntKind) (w:World) (a:Option Addr) (len cap:Nat) (zs:List Int):Prop:=
 (a=none∧len=0∧cap=0∧zs= [])∨
 ∃x,a=some x∧len≤cap∧cap≤maxLen∧zs.length=cap∧(∀i,i<zs.length→w.cell? (x.add i)=some (.int k (zs.getD i 0)))∧ ∀n∈zs,(Lit.int k n).wf=true
theorem IsRow.le {k:IntKind} {w:World} {a:Option Addr} {len cap:Nat} {zs:List Int} (h:IsRow k w a len cap zs):len≤cap∧cap≤9223372036854775807∧zs.length=cap:=by
 rcases h with ⟨rfl,rfl,rfl,rfl⟩|⟨x,rfl,h1,h2,h3,_⟩
 ·exact ⟨Nat.le_refl _,by decide,rfl⟩
 ·exact ⟨h1,by simpa [maxLen] using h2,h3⟩
theorem IsRow.at_ {k:IntKind} {w:World} {a:Option Addr} {len cap:Nat} {zs:List Int} (h:IsRow k w a len cap zs) (i:Nat) (hi:i<len): ∃b o,a=some ⟨b,o,none⟩∧w.cell? ⟨b,o+i,none⟩=some (.int k (zs.getD i 0)):=by
 rcases h with ⟨rfl,rfl,rfl,rfl⟩|⟨x,rfl,h1,h2,h3,h4,h5⟩
 ·omega
 ·have h0:=h4 0 (by omega)
  have hx:x.add 0=x:=by unfold Addr.add;rw [if_pos rfl]
  rw [hx] at h0
  obtain ⟨b,o,s⟩:=x
  have hs:s=none:=by
   unfold World.cell? at h0
   split at h0
   ·split at h0
    ·cases h0
    ·rename_i hn;simpa using hn
   ·cases h0
  subst hs
  refine ⟨b,o,rfl,?_⟩
  have:=h4 i (by omega)
  rwa [addr_add] at this
theorem within1_calls {w:World} {a:Int} {n:Nat} (hn:0<n) (hn2:n≤1000000000000):
  Calls Tryz.prog 57 [.int .i64 a,.int .i64 n].toArray w fun e w'=>e= .returned (.int .i64 (a%n))∧w'=w:=by
 have hm:=tmod_emod a n hn
 refine zCz 15 Tryz.func57 ?_
 refine zz ?_
 refine z_rem (want_L rfl) (by decide) rfl rfl (by omega) ?_
 refine zz ?_
 rcases hm with ⟨h1,h2,h3⟩|⟨h1,h2,h3⟩
 ·refine zz ?_
  exact zk_ret1 (.inr rfl) rfl rfl ⟨by rw [h2],rfl⟩
 ·refine zz ?_
  exact zk_ret1 (.inr rfl) rfl rfl ⟨by rw [h2],rfl⟩
structure Tp (w:World) (B bt:Nat):Prop where
 ex: ∃w0 a len cap zs,∃i:Nat,w0.heap.size≤B∧Blk w bt 36 [.slice a len cap,.int .i64 i]∧IsRow .i64 w0 a len cap zs∧Chg w0 w (fun k=>B≤k)∧i≤len
 ge:B≤bt
theorem Tp.blk {w:World} {B bt:Nat} (h:Tp w B bt): ∃cs,Blk w bt 36 cs:=by obtain ⟨w0,a,len,cap,zs,i,_,h1,_⟩:=h.ex;exact ⟨_,h1⟩
theorem Tp.lt {w:World} {B bt:Nat} (h:Tp w B bt):bt<w.heap.size:=by obtain ⟨_,h1⟩:=h.blk;exact h1.lt
theorem Tp.oth {w w':World} {B bt:Nat} {S:Nat→Prop} (h:Tp w B bt) (hc:Chg w w' S) (h1: ¬S bt) (h2: ∀k,k<w.heap.size→S k→B≤k):Tp w' B bt:=by
 obtain ⟨w0,a,len,cap,zs,i,h3,h4,h5,h6,h7⟩:=h.ex
 exact ⟨⟨w0,a,len,cap,zs,i,h3,h4.chg hc h1,h5,h6.trans hc (fun k hk hs=>h2 k (by have:=h6.size;omega) hs),h7⟩,h.ge⟩
theorem Tp.no {w w':World} {B bt:Nat} (h:Tp w B bt) (hc:Chg w w' No):Tp w' B bt:=h.oth hc id (fun _ _ h=>h.elim)
theorem cell_chg {w w':World} {S:Nat→Prop} {b o:Nat} {v:Value} (hc:Chg w w' S) (hn: ¬S b) (h:w.cell? ⟨b,o,none⟩=some v):w'.cell? ⟨b,o,none⟩=some v:=by
 have hlt:b<w.heap.size:=by
  rcases Nat.lt_or_ge b w.heap.size with h1|h1
  ·exact h1
  ·simp [World.cell?,Array.getElem?_eq_none h1] at h
 have:=hc.same b hlt hn
 simp only [World.cell?,this] at h ⊢
 exact h
theorem next_calls {w:World} {B bt:Nat} (h:Tp w B bt) (n:Nat) (hn:0<n) (hn2:n≤1000000000000) {ni:Int} (hni:ni=(n:Int)):
  Calls Tryz.prog 31 [.pointer (some ⟨bt,0,none⟩),.int .i64 ni].toArray w fun e w'=>(∃k:Nat,k<n∧e= .returned (.int .i64 k))∧Tp w' B bt∧Chg w w' (· =bt):=by
 subst hni
 obtain ⟨w0,a,len,cap,zs,i,hw0,hb,hrow,hC0,hat⟩:=h.ex
 have hge:=h.ge
 obtain ⟨hlc,hcm,_⟩:=hrow.le
 refine zCz 35 Tryz.func31 ?_
 refine zz ?_
 refine zc_draw [] (fun w'=>Blk w' bt 36 [.slice a len cap,.int .i64 i]) (.take 0 (.take 1 (.take 2 (.take 3 (.take 4 (.take 5 (.take 6 (.take 7 (.take 8 (.take 9 (.fin))))))))))) (by rfl) (by kernel_rfl) (by kernel_rfl) (fun w1 hC1 _=>⟨?_,?_⟩)
 ·exact hb.no hC1
 have hb1:=hb.no hC1
 have h01:=hC0.no hC1
 refine zz ?_
 by_cases hlt:i<len
 ·refine zz ?_
  refine z_store (want_L rfl) rfl rfl rfl (by assumption) (by first|exact Nat.le_refl _|simp [Value.cells]) (by simp [Value.cells,Value.oneCell']) (fun w2 hU2=> ?_)
  have h2:Blk w2 bt 36 [.slice a len cap,.int .i64 (i+1)]:=hU2.blk
  obtain ⟨b,o,ha,hc⟩:=hrow.at_ i hlt
  subst ha
  have hblt:b<w0.heap.size:=by
   rcases Nat.lt_or_ge b w0.heap.size with h1|h1
   ·exact h1
   ·simp [World.cell?,Array.getElem?_eq_none h1] at hc
  have h02:Chg w0 w2 (fun k=>B≤k):=h01.trans hU2.chg (fun k _ hk=>by subst hk;exact hge)
  have hc2:=cell_chg h02 (by omega) hc
  refine zN (zK (zS ?_))
  refine zc_draw [] (fun w'=>Chg w2 w' No∧Blk w' bt 36 [.slice (some ⟨b,o,none⟩) len cap,.int .i64 (i+1)]) (.take 0 (.take 1 (.take 2 (.take 3 (.take 4 (.take 5 (.take 6 (.take 7 (.take 8 (.take 9 (.take 10 (.take 11 (.all1 12 (.take 13 (.fin))))))))))))))) (by rfl) (by kernel_rfl) (by kernel_rfl) (fun w3 hC3 _=>⟨?_,?_⟩)
  ·exact ⟨hC3,h2.no hC3⟩
  refine zz ?_
  refine zRd rfl rfl (fun _ hS=>r_load1 rfl (cell_at (cell_keep hS.1 hc2) (by omega))) ?_
  refine ztP rfl rfl ?_
  refine zs_call rfl (want_L rfl) rfl (by decide) rfl (within1_calls (n:=n) hn hn2) ?_
  rintro _ w4 ⟨rfl,hw4⟩
  obtain rfl:=hw4.symm
  refine ⟨_,rfl,⟨hC3,h2.no hC3⟩,?_⟩
  have hm0:=Int.emod_nonneg (zs.getD i 0) (show (n:Int)≠0 by omega)
  have hm1:=Int.emod_lt_of_pos (zs.getD i 0) (show (0:Int)<n by omega)
  refine zz ?_
  refine zk_ret1 (.inr rfl) rfl rfl ⟨⟨(zs.getD i 0%(n:Int)).toNat,by omega,by rw [Int.toNat_of_nonneg hm0]⟩,⟨⟨w0,_,len,cap,zs,i+1,hw0,h2.no hC3,hrow,h02.no hC3,hlt⟩,hge⟩,?_⟩
  exact ((hC1.mono (S':=(· =bt)) (fun _ _ h=>h.elim)).trans hU2.chg (fun _ _ h=>h)).no hC3
 ·refine zz ?_
  exact zk_ret1 (.inr rfl) rfl rfl ⟨⟨0,hn,rfl⟩,⟨⟨w0,a,len,cap,zs,i,hw0,hb1,hrow,h01,hat⟩,hge⟩,hC1.mono (fun _ _ h=>h.elim)⟩
end Go.Proofs.YtbcmiijollpgeaaGreat.T
namespace Go.Z
open Go
theorem RdS.chgAt {w w':World} {t sz m:Nat} {v:Value} {cs:List Value} {S:Nat→Prop} (h:RdS w t sz v m cs) (hc:Chg w w' S) (hS:0<m→ ∀b cells,v.ownBlock=Option.some b→Blk w b t cells→ ¬S b):RdS w' t sz v m cs:=by
 obtain ⟨h1,h2,A,c,h3,h4,h5⟩:=h
 refine ⟨h1,h2,A,c,h3,h4,fun hm=> ?_⟩
 obtain ⟨b,o,cells,h6,h7,h8⟩:=h5 hm
 exact ⟨b,o,cells,h6,h7.chg hc (hS hm b cells (by rw [h3,h6];rfl) h7),h8⟩
theorem RdS.ownLt {w:World} {t sz m:Nat} {v:Value} {cs:List Value} (h:RdS w t sz v m cs) (hm:0<m) {b:Nat} (hb:v.ownBlock=Option.some b):b<w.heap.size:=by
 obtain ⟨h1,h2,A,c,h3,h4,h5⟩:=h
 obtain ⟨b',o,cells,h6,h7,h8⟩:=h5 hm
 rw [h3,h6] at hb
 simp [Value.ownBlock] at hb
 subst hb
 exact h7.lt
end Go.Z
namespace Go.Proofs.YtbcmiijollpgeaaGreat.T
open Go Go.Z Go.Proofs
def AtS (w:World) (v:Value) (l:List At):Prop:=RdS w 45 2 v l.length (encA l)
theorem AtS.form {w:World} {v:Value} {l:List At} (h:AtS w v l): ∃A c,v= .slice A l.length c∧l.length≤c:=RdS.form h
theorem AtS.nil (w:World):AtS w nS []:=RdS.nil
def HO (w:World) (m:MA) (x:Hd):Prop:=m.name=x.name∧AtS w m.attrs x.attrs∧m.text=x.text∧isSl m.fr
def RowsOk (w:World) (o:Nat→Prop):AT→List MA→Prop
 | .nil,ms=>ms= []
 | .cons x k r,ms=> ∃m q,ms=m::q∧HO w m x∧
  (∃ks,RdS w 43 5 m.kids ks.length (encM ks)∧(0<ks.length→ ∀b,m.kids.ownBlock=some b→o b)∧RowsOk w o k ks)∧RowsOk w o r q
def TreeOk (w:World) (o:Nat→Prop) (v:Value) (t:AT):Prop:= ∃ms,RdS w 43 5 v ms.length (encM ms)∧(0<ms.length→ ∀b,v.ownBlock=some b→o b)∧RowsOk w o t ms
section
variable {w w' : World} {o o' : Nat → Prop} {S : Nat → Prop}
theorem RowsOk.rows: ∀(t:AT) (ms:List MA),RowsOk w o t ms→Rows true w t ms
 | .nil,ms,h=>h
 | .cons x k r,ms,h=>by
  obtain ⟨m,q,h1,h2,⟨ks,h4,h5,h6⟩,h7⟩:=h
  exact ⟨m,q,h1,⟨h2.1,Rx.of h2.2.1,h2.2.2⟩,⟨ks,Rx.of h4,RowsOk.rows k ks h6⟩,RowsOk.rows r q h7⟩
theorem TreeOk.at' {v:Value} {t:AT} (h:TreeOk w o v t):TreeAt true w v t:=by
 obtain ⟨ms,h1,_,h2⟩:=h
 exact ⟨ms,Rx.of h1,RowsOk.rows t ms h2⟩
theorem RowsOk.of: ∀(t:AT) (ms:List MA),Rows true w t ms→RowsOk w (fun _=>True) t ms
 | .nil,ms,h=>h
 | .cons x k r,ms,h=>by
  obtain ⟨m,q,h1,h2,⟨ks,h4,h6⟩,h7⟩:=h
  exact ⟨m,q,h1,⟨h2.1,h2.2.1.2 rfl,h2.2.2⟩,⟨ks,h4.2 rfl,fun _ _ _=>trivial,RowsOk.of k ks h6⟩,RowsOk.of r q h7⟩
theorem RowsOk.mono (h8: ∀b,b<w.heap.size→o b→o' b): ∀(t:AT) (ms:List MA),RowsOk w o t ms→RowsOk w o' t ms
 | .nil,ms,h=>h
 | .cons x k r,ms,h=>by
  obtain ⟨m,q,h1,h2,⟨ks,h4,h6,h7⟩,h9⟩:=h
  exact ⟨m,q,h1,h2,⟨ks,h4,fun hl b hb=>h8 b (RdS.ownLt h4 hl hb) (h6 hl b hb),RowsOk.mono h8 k ks h7⟩,RowsOk.mono h8 r q h9⟩
theorem TreeOk.mono {v:Value} {t:AT} (h:TreeOk w o v t) (h8: ∀b,b<w.heap.size→o b→o' b):TreeOk w o' v t:=by
 obtain ⟨ms,h1,h2,h3⟩:=h
 exact ⟨ms,h1,fun hl b hb=>h8 b (RdS.ownLt h1 hl hb) (h2 hl b hb),RowsOk.mono h8 t ms h3⟩
theorem TreeAt.ok {v:Value} {t:AT} (h:TreeAt true w v t):TreeOk w (fun b=>b<w.heap.size) v t:=by
 obtain ⟨ms,h1,h2⟩:=h
 have:TreeOk w (fun _=>True) v t:=⟨ms,h1.2 rfl,fun _ _ _=>trivial,RowsOk.of t ms h2⟩
 exact this.mono (fun b hb _=>hb)
theorem RowsOk.chg (hc:Chg w w' S) (h8: ∀b cells,Blk w b 43 cells→o b→ ¬S b) (h5: ∀b cells,Blk w b 45 cells→ ¬S b): ∀(t:AT) (ms:List MA),RowsOk w o t ms→RowsOk w' o t ms
 | .nil,ms,h=>h
 | .cons x k r,ms,h=>by
  obtain ⟨m,q,h1,h2,⟨ks,h4,h6,h7⟩,h9⟩:=h
  exact ⟨m,q,h1,⟨h2.1,h2.2.1.chgAt hc (fun _ b cells _ hb=>h5 b cells hb),h2.2.2⟩,⟨ks,h4.chgAt hc (fun hl b cells hb hk=>h8 b cells hk (h6 hl b hb)),h6,RowsOk.chg hc h8 h5 k ks h7⟩,RowsOk.chg hc h8 h5 r q h9⟩
theorem TreeOk.chg {v:Value} {t:AT} (h:TreeOk w o v t) (hc:Chg w w' S) (h8: ∀b cells,Blk w b 43 cells→o b→ ¬S b) (h5: ∀b cells,Blk w b 45 cells→ ¬S b):TreeOk w' o v t:=by
 obtain ⟨ms,h1,h2,h3⟩:=h
 exact ⟨ms,h1.chgAt hc (fun hl b cells hb hk=>h8 b cells hk (h2 hl b hb)),h2,RowsOk.chg hc h8 h5 t ms h3⟩
theorem TreeOk.no {v:Value} {t:AT} (h:TreeOk w o v t) (hc:Chg w w' No):TreeOk w' o v t:=h.chg hc (fun _ _ _ _=>id) (fun _ _ _=>id)
theorem TreeOk.nil:TreeOk w o nS .nil:=⟨[],RdS.nil,fun h=>absurd h (Nat.lt_irrefl 0),rfl⟩
end
theorem TreeOk.form {w:World} {o:Nat→Prop} {v:Value} {t:AT} (h:TreeOk w o v t): ∃A c,v= .slice A t.len c∧t.len≤c:=h.at'.form
theorem TreeOk.tp {w w':World} {o:Nat→Prop} {v:Value} {t:AT} {B bt:Nat} (h:TreeOk w o v t) (hT:Tp w B bt) (hc:Chg w w' (· =bt)):TreeOk w' o v t:=by
 obtain ⟨cs,hb⟩:=hT.blk
 exact h.chg hc (fun b cells hk _ he=>hk.ne hb (by decide) he) (fun b cells hk he=>hk.ne hb (by decide) he)
theorem AtS.tp {w w':World} {v:Value} {l:List At} {B bt:Nat} (h:AtS w v l) (hT:Tp w B bt) (hc:Chg w w' (· =bt)):AtS w' v l:=by
 obtain ⟨cs,hb⟩:=hT.blk
 exact RdS.chgAt h hc (fun _ b cells _ hk he=>hk.ne hb (by decide) he)
def AT.snoc (t:AT) (x:Hd) (k:AT):AT:=t.app (.cons x k .nil)
theorem AT.snoc_len (t:AT) (x:Hd) (k:AT):(t.snoc x k).len=t.len+1:=by unfold AT.snoc;rw [AT.app_len];rfl
theorem AT.snoc_size (t:AT) (x:Hd) (k:AT):(t.snoc x k).size=t.size+k.size+1:=by unfold AT.snoc;rw [AT.app_size];simp [AT.size];omega
theorem RowsOk.snoc {w:World} {o:Nat→Prop} {m:MA} {x:Hd} {k:AT} (hm:HO w m x) (hk:TreeOk w o m.kids k): ∀(t:AT) (ms:List MA),RowsOk w o t ms→RowsOk w o (t.snoc x k) (ms++ [m])
 | .nil,ms,h=>by
  have:ms= []:=h
  subst this
  exact ⟨m,[],rfl,hm,hk,rfl⟩
 | .cons y k' r,ms,h=>by
  obtain ⟨m',q,rfl,h2,h4,h9⟩:=h
  exact ⟨m',q++ [m],rfl,h2,h4,RowsOk.snoc hm hk r q h9⟩
def Out (B:Nat) (w:World) (vo:Value) (t:AT):Prop:= ∃ms,Own w 43 5 vo ms.length (encM ms)∧(∀k,vo.ownBlock=some k→B≤k)∧RowsOk w (fun b=>B≤b∧vo.ownBlock≠some b) t ms
section
variable {B : Nat} {w w' : World} {vo : Value} {t : AT}
theorem Out.nil:Out B w nS .nil:=⟨[],Own.nil,(fun k hk=>by cases hk),rfl⟩
theorem Out.chg {S:Nat→Prop} (h:Out B w vo t) (hc:Chg w w' S) (h8: ∀b cells,Blk w b 43 cells→B≤b→ ¬S b) (h5: ∀b cells,Blk w b 45 cells→ ¬S b):Out B w' vo t:=by
 obtain ⟨ms,h1,h2,h3⟩:=h
 refine ⟨ms,h1.chg hc (fun k hk hs=> ?_),h2,RowsOk.chg hc (fun b cells hb ho=>h8 b cells hb ho.1) h5 t ms h3⟩
 obtain ⟨cells,hb⟩:=h1.blk hk
 exact h8 k cells hb (h2 k hk) hs
theorem Out.no (h:Out B w vo t) (hc:Chg w w' No):Out B w' vo t:=h.chg hc (fun _ _ _ _=>id) (fun _ _ _=>id)
theorem Out.tp {B' bt:Nat} (h:Out B w vo t) (hT:Tp w B' bt) (hc:Chg w w' (· =bt)):Out B w' vo t:=by
 obtain ⟨cs,hb⟩:=hT.blk
 exact h.chg hc (fun b cells hk _ he=>hk.ne hb (by decide) he) (fun b cells hk he=>hk.ne hb (by decide) he)
theorem Out.tree (h:Out B w vo t):TreeOk w (fun b=>B≤b) vo t:=by
 obtain ⟨ms,h1,h2,h3⟩:=h
 exact ⟨ms,h1.rd,fun _ b hb=>h2 b hb,RowsOk.mono (fun b _ h=>h.1) t ms h3⟩
theorem Out.form (h:Out B w vo t): ∃A c,vo= .slice A t.len c∧t.len≤c:=h.tree.form
theorem Out.less {B':Nat} (h:Out B w vo t) (hB:B'≤B):Out B' w vo t:=by
 obtain ⟨ms,h1,h2,h3⟩:=h
 exact ⟨ms,h1,fun k hk=>Nat.le_trans hB (h2 k hk),RowsOk.mono (fun b _ h=>⟨Nat.le_trans hB h.1,h.2⟩) t ms h3⟩
theorem TreeOk.under {B2:Nat} {K:Value} {k:AT} {w0:World} (h:Out B w0 vo t) (hB:B≤B2) (hs:w0.heap.size≤B2) (hk:TreeOk w (fun b=>B2≤b) K k):TreeOk w (fun b=>B≤b∧vo.ownBlock≠some b) K k:=by
 obtain ⟨ms,h1,h2,h3⟩:=h
 refine hk.mono (fun b _ hb=>⟨by omega,fun he=> ?_⟩)
 have:=h1.lt he
 omega
theorem Out.push {w1 w2:World} {v':Value} {m:MA} {x:Hd} {k:AT} {ms:List MA} (g1:Own w 43 5 vo ms.length (encM ms)) (g2: ∀k,vo.ownBlock=some k→B≤k) (g3:RowsOk w (fun b=>B≤b∧vo.ownBlock≠some b) t ms) (hm:HO w m x) (hk:TreeOk w (fun b=>B≤b∧vo.ownBlock≠some b) m.kids k) (hB:B≤w.heap.size)
  (h1:Chg w w1 No) (hO:Own w2 43 5 v' (ms.length+1) (encM ms++encM [m])) (hc:Chg w1 w2 (fun k=>vo.ownBlock=some k)) (hr:v'.ownBlock=vo.ownBlock∨ ∃k,v'.ownBlock=some k∧w1.heap.size≤k):Out B w2 v' (t.snoc x k):=by
 refine ⟨ms++ [m],by rw [List.length_append,encM_app];exact hO,?_,?_⟩
 ·intro j hj
  rcases hr with e1|⟨q,e1,e2⟩
  ·exact g2 j (e1▸hj)
  ·rw [hj] at e1;cases e1;have:=h1.size;omega
 ·have h4:=RowsOk.snoc hm hk t ms g3
  have h5:=RowsOk.chg h1 (fun _ _ _ _=>id) (fun _ _ _=>id) _ _ h4
  have hO1:=g1.no h1
  have h6:=RowsOk.mono (o':=fun b=>(B≤b∧vo.ownBlock≠some b)∧b<w1.heap.size) (fun b hb hq=>⟨hq,hb⟩) _ _ h5
  have h7:=RowsOk.chg hc (fun b _ _ hb=>hb.1.2) (fun b cells hb he=>hO1.ne he hb (by decide) rfl) _ _ h6
  refine RowsOk.mono (fun b _ hq=>⟨hq.1.1,fun he=> ?_⟩) _ _ h7
  rcases hr with e1|⟨q,e1,e2⟩
  ·exact hq.1.2 (e1▸he)
  ·rw [he] at e1;cases e1;omega
end
theorem Out.len (B:Nat) {w:World} {vo:Value} {t:AT} {ms:List MA} (g3:RowsOk w (fun b=>B≤b∧vo.ownBlock≠some b) t ms):ms.length=t.len:=Rows.len t ms (RowsOk.rows t ms g3)
def lNm:List (List UInt8):= [[],[112],[112,114,101],[104,114],[104,50],[104,51],[104,52],[104,53],[104,54],[117,108],[111,108],[108,105],[98,108,111,99,107,113,117,111,116,101],[116,97,98,108,101],[116,98,111,100,121],[116,114],[116,100],[116,104],[98,114],[105,109,103],[97],[99,111,100,101],[101,109],[115,116,114,111,110,103],[115,117,98],[115,117,112]]
def lTx:List (List UInt8):= [[111,110,101],[32,116,119,111,32],[10],[116,104,114,101,101,44,32],[60,38,62],[194,160],[13],[34],[97,32,108,111,110,103,101,114,32,116,101,120,116,46],[228,184,150],[38,97,109,112,59],[10,120],[32]]
def lTxs:List (List UInt8):= []:: [120]::(lTx++lTx.map (· ++ [120]))
def lAlt:List (List UInt8):= [[],[97,110,32,105,109,97,103,101],[60,34,38,13]]
def lSrc:List (List UInt8):= [[104,116,116,112,58,47,47,97,47,105,46,112,110,103],[100,97,116,97,58,105,109,97,103,101,47,112,110,103,59,98,97,115,101,54,52,44,120,120],[100,97,116,97,58,105,109,97,103,101,47,103,105,102,44]]
def lSet:List (List UInt8):= [[104,116,116,112,58,47,47,97,47,98,32,50,120],[104,116,116,112,58,47,47,97,47,98,44,32,104,116,116,112,115,58,47,47,99,47,100,32,49,48,48,119]]
def lHref:List (List UInt8):= [[104,116,116,112,58,47,47,97,47],[104,116,116,112,115,58,47,47,104,58,55,47,120,63,113,35,102],[109,97,105,108,116,111,58,97,64,98]]
def lKey:List (List UInt8):= [[97,108,116],[115,114,99],[115,114,99,115,101,116],[104,114,101,102],[99,105,116,101],[114,111,108,101]]
def sCite:List UInt8:= [104,116,116,112,58,47,47,97,47,113]
def sPres:List UInt8:= [112,114,101,115,101,110,116,97,116,105,111,110]
def lVal:List (List UInt8):=lAlt++lSrc++lSet++lHref++ [sCite,sPres]
abbrev LN (l:List At):Prop:=l.length≤3∧(l.map (·.1)).Nodup
def HdOk (x:Hd):Prop:=x.name∈lNm∧LN x.attrs∧(∀a∈x.attrs,a.1∈lKey∧a.2∈lVal)∧x.text∈lTxs
def AT.ok:AT→Prop
 | .nil=>True
 | .cons x k r=>HdOk x∧k.ok∧r.ok
theorem AT.app_ok: ∀(t q:AT),t.ok→q.ok→(t.app q).ok
 | .nil,q,_,h=>h
 | .cons x k r,q,h,h'=>⟨h.1,h.2.1,AT.app_ok r q h.2.2 h'⟩
theorem AT.snoc_ok {t:AT} {x:Hd} {k:AT} (h:t.ok) (hx:HdOk x) (hk:k.ok):(t.snoc x k).ok:=AT.app_ok t _ h ⟨hx,hk,trivial⟩
theorem nm_len: ∀n∈lNm,n.length≤10:=by decide
theorem tx_len: ∀n∈lTxs,n.length≤15:=by decide
theorem key_len: ∀n∈lKey,n.length≤6:=by decide
theorem val_len: ∀n∈lVal,n.length≤28:=by decide
theorem attrs_bound: ∀l:List At,(∀a∈l,a.1∈lKey∧a.2∈lVal)→attrsN l≤178*l.length
 | [],_=>Nat.le_refl _
 |a::r,h=>by
  have:=attrs_bound r (fun a ha=>h a (List.mem_cons_of_mem _ ha))
  obtain ⟨h1,h2⟩:=h a (List.mem_cons_self ..)
  have:=key_len _ h1;have:=val_len _ h2
  simp only [attrsN,List.length_cons];omega
theorem AT.ok_wt: ∀t:AT,t.ok→t.wt≤700*t.size
 | .nil,_=>Nat.le_refl _
 | .cons x k r,h=>by
  obtain ⟨⟨h1,⟨h2,_⟩,h3,h4⟩,h5,h6⟩:=h
  have:=AT.ok_wt k h5;have:=AT.ok_wt r h6
  have:=nm_len _ h1;have:=tx_len _ h4
  have:=attrs_bound x.attrs h3
  simp only [AT.wt,AT.size];omega
def tBlk:List (List UInt8):= [[98,108,111,99,107,113,117,111,116,101],[104,50],[104,51],[104,52],[104,53],[104,54],[104,114],[111,108],[112],[112,114,101],[116,97,98,108,101],[117,108]]
def tInl:List (List UInt8):= [[97],[98,114],[99,111,100,101],[101,109],[105,109,103],[115,116,114,111,110,103],[115,117,98],[115,117,112]]
def tLn:List (List UInt8):= [[104,50],[104,51],[104,52],[104,53],[104,54],[112],[112,114,101]]
def tIn:List (List UInt8):= [[97],[99,111,100,101],[101,109],[115,116,114,111,110,103],[115,117,98],[115,117,112]]
def tLf:List (List UInt8):= [[104,114],[98,114],[105,109,103]]
def tCell:List (List UInt8):= [[116,100],[116,104]]
def tLi:List UInt8:= [108,105]
def tOl:List UInt8:= [111,108]
def tUl:List UInt8:= [117,108]
def tBq:List UInt8:= [98,108,111,99,107,113,117,111,116,101]
def tTab:List UInt8:= [116,97,98,108,101]
def tBod:List UInt8:= [116,98,111,100,121]
def tTr:List UInt8:= [116,114]
def deepA:AT→Nat
 | .nil=>0
 | .cons x k r=>max (1+deepA k) (deepA r)
def ofA (l:List (List UInt8)):AT→Prop
 | .nil=>True
 | .cons x k r=>x.name∈l∧ofA l r
def headT:AT→Bool
 | .nil=>false
 | .cons x _ _=>decide (x.name= [])
def lineA:AT→Prop
 | .nil=>True
 | .cons x k r=>(x.name= []∨x.name∈tInl)∧(x.name= []→headT r=false)∧lineA r
def hasA (nm:List UInt8):AT→Prop
 | .nil=>False
 | .cons x k r=>x.name=nm∨hasA nm k∨hasA nm r
def kidsA (nm:List UInt8) (k:AT):Prop:=
 (nm∈tLn→lineA k)∧(nm∈tIn→lineA k∧ ¬hasA nm k)∧(nm∈tLf→k= .nil)∧(nm=tOl∨nm=tUl→ofA [tLi] k)∧(nm=tBq→ofA tBlk k)∧
 (nm=tTab→ofA [tBod] k)∧(nm=tBod→ofA [tTr] k)∧(nm=tTr→ofA tCell k)∧(nm=tLi∨nm∈tCell→ofA tBlk k∨lineA k)
def AT.shp:AT→Prop
 | .nil=>True
 | .cons x k r=>(x.name= []→x.text≠ [])∧(x.name≠ []→kidsA x.name k∧k.shp)∧r.shp
def lastNT:AT→Prop
 | .nil=>True
 | .cons x _ .nil=>x.name≠ []
 | .cons _ _ (.cons y k r)=>lastNT (.cons y k r)
theorem kids_line {nm:List UInt8} {k:AT} (hn:nm∈([[104,50],[104,51],[104,52],[104,53],[104,54],[112],[112,114,101]]:List (List UInt8))) (h:lineA k):kidsA nm k:=⟨fun _=>h,fun hh=>absurd hh ((show∀a∈([[104,50],[104,51],[104,52],[104,53],[104,54],[112],[112,114,101]]:List (List UInt8)),a∉tIn by decide) nm hn),fun hh=>absurd hh ((show∀a∈([[104,50],[104,51],[104,52],[104,53],[104,54],[112],[112,114,101]]:List (List UInt8)),a∉tLf by decide) nm hn),fun hh=>absurd hh ((show∀a∈([[104,50],[104,51],[104,52],[104,53],[104,54],[112],[112,114,101]]:List (List UInt8)),¬(a=tOl∨a=tUl) by decide) nm hn),fun hh=>absurd hh ((show∀a∈([[104,50],[104,51],[104,52],[104,53],[104,54],[112],[112,114,101]]:List (List UInt8)),a≠tBq by decide) nm hn),fun hh=>absurd hh ((show∀a∈([[104,50],[104,51],[104,52],[104,53],[104,54],[112],[112,114,101]]:List (List UInt8)),a≠tTab by decide) nm hn),fun hh=>absurd hh ((show∀a∈([[104,50],[104,51],[104,52],[104,53],[104,54],[112],[112,114,101]]:List (List UInt8)),a≠tBod by decide) nm hn),fun hh=>absurd hh ((show∀a∈([[104,50],[104,51],[104,52],[104,53],[104,54],[112],[112,114,101]]:List (List UInt8)),a≠tTr by decide) nm hn),fun hh=>absurd hh ((show∀a∈([[104,50],[104,51],[104,52],[104,53],[104,54],[112],[112,114,101]]:List (List UInt8)),¬(a=tLi∨a∈tCell) by decide) nm hn)⟩
theorem kids_inl {nm:List UInt8} {k:AT} (hn:nm∈([[97],[99,111,100,101],[101,109],[115,116,114,111,110,103],[115,117,98],[115,117,112]]:List (List UInt8))) (h:lineA k∧ ¬hasA nm k):kidsA nm k:=⟨fun hh=>absurd hh ((show∀a∈([[97],[99,111,100,101],[101,109],[115,116,114,111,110,103],[115,117,98],[115,117,112]]:List (List UInt8)),a∉tLn by decide) nm hn),fun _=>h,fun hh=>absurd hh ((show∀a∈([[97],[99,111,100,101],[101,109],[115,116,114,111,110,103],[115,117,98],[115,117,112]]:List (List UInt8)),a∉tLf by decide) nm hn),fun hh=>absurd hh ((show∀a∈([[97],[99,111,100,101],[101,109],[115,116,114,111,110,103],[115,117,98],[115,117,112]]:List (List UInt8)),¬(a=tOl∨a=tUl) by decide) nm hn),fun hh=>absurd hh ((show∀a∈([[97],[99,111,100,101],[101,109],[115,116,114,111,110,103],[115,117,98],[115,117,112]]:List (List UInt8)),a≠tBq by decide) nm hn),fun hh=>absurd hh ((show∀a∈([[97],[99,111,100,101],[101,109],[115,116,114,111,110,103],[115,117,98],[115,117,112]]:List (List UInt8)),a≠tTab by decide) nm hn),fun hh=>absurd hh ((show∀a∈([[97],[99,111,100,101],[101,109],[115,116,114,111,110,103],[115,117,98],[115,117,112]]:List (List UInt8)),a≠tBod by decide) nm hn),fun hh=>absurd hh ((show∀a∈([[97],[99,111,100,101],[101,109],[115,116,114,111,110,103],[115,117,98],[115,117,112]]:List (List UInt8)),a≠tTr by decide) nm hn),fun hh=>absurd hh ((show∀a∈([[97],[99,111,100,101],[101,109],[115,116,114,111,110,103],[115,117,98],[115,117,112]]:List (List UInt8)),¬(a=tLi∨a∈tCell) by decide) nm hn)⟩
theorem kids_leaf {nm:List UInt8} {k:AT} (hn:nm∈([[104,114],[98,114],[105,109,103]]:List (List UInt8))) (h:k= .nil):kidsA nm k:=⟨fun hh=>absurd hh ((show∀a∈([[104,114],[98,114],[105,109,103]]:List (List UInt8)),a∉tLn by decide) nm hn),fun hh=>absurd hh ((show∀a∈([[104,114],[98,114],[105,109,103]]:List (List UInt8)),a∉tIn by decide) nm hn),fun _=>h,fun hh=>absurd hh ((show∀a∈([[104,114],[98,114],[105,109,103]]:List (List UInt8)),¬(a=tOl∨a=tUl) by decide) nm hn),fun hh=>absurd hh ((show∀a∈([[104,114],[98,114],[105,109,103]]:List (List UInt8)),a≠tBq by decide) nm hn),fun hh=>absurd hh ((show∀a∈([[104,114],[98,114],[105,109,103]]:List (List UInt8)),a≠tTab by decide) nm hn),fun hh=>absurd hh ((show∀a∈([[104,114],[98,114],[105,109,103]]:List (List UInt8)),a≠tBod by decide) nm hn),fun hh=>absurd hh ((show∀a∈([[104,114],[98,114],[105,109,103]]:List (List UInt8)),a≠tTr by decide) nm hn),fun hh=>absurd hh ((show∀a∈([[104,114],[98,114],[105,109,103]]:List (List UInt8)),¬(a=tLi∨a∈tCell) by decide) nm hn)⟩
theorem kids_lst {nm:List UInt8} {k:AT} (hn:nm∈([[111,108],[117,108]]:List (List UInt8))) (h:ofA [tLi] k):kidsA nm k:=⟨fun hh=>absurd hh ((show∀a∈([[111,108],[117,108]]:List (List UInt8)),a∉tLn by decide) nm hn),fun hh=>absurd hh ((show∀a∈([[111,108],[117,108]]:List (List UInt8)),a∉tIn by decide) nm hn),fun hh=>absurd hh ((show∀a∈([[111,108],[117,108]]:List (List UInt8)),a∉tLf by decide) nm hn),fun _=>h,fun hh=>absurd hh ((show∀a∈([[111,108],[117,108]]:List (List UInt8)),a≠tBq by decide) nm hn),fun hh=>absurd hh ((show∀a∈([[111,108],[117,108]]:List (List UInt8)),a≠tTab by decide) nm hn),fun hh=>absurd hh ((show∀a∈([[111,108],[117,108]]:List (List UInt8)),a≠tBod by decide) nm hn),fun hh=>absurd hh ((show∀a∈([[111,108],[117,108]]:List (List UInt8)),a≠tTr by decide) nm hn),fun hh=>absurd hh ((show∀a∈([[111,108],[117,108]]:List (List UInt8)),¬(a=tLi∨a∈tCell) by decide) nm hn)⟩
theorem kids_bq {nm:List UInt8} {k:AT} (hn:nm∈([[98,108,111,99,107,113,117,111,116,101]]:List (List UInt8))) (h:ofA tBlk k):kidsA nm k:=⟨fun hh=>absurd hh ((show∀a∈([[98,108,111,99,107,113,117,111,116,101]]:List (List UInt8)),a∉tLn by decide) nm hn),fun hh=>absurd hh ((show∀a∈([[98,108,111,99,107,113,117,111,116,101]]:List (List UInt8)),a∉tIn by decide) nm hn),fun hh=>absurd hh ((show∀a∈([[98,108,111,99,107,113,117,111,116,101]]:List (List UInt8)),a∉tLf by decide) nm hn),fun hh=>absurd hh ((show∀a∈([[98,108,111,99,107,113,117,111,116,101]]:List (List UInt8)),¬(a=tOl∨a=tUl) by decide) nm hn),fun _=>h,fun hh=>absurd hh ((show∀a∈([[98,108,111,99,107,113,117,111,116,101]]:List (List UInt8)),a≠tTab by decide) nm hn),fun hh=>absurd hh ((show∀a∈([[98,108,111,99,107,113,117,111,116,101]]:List (List UInt8)),a≠tBod by decide) nm hn),fun hh=>absurd hh ((show∀a∈([[98,108,111,99,107,113,117,111,116,101]]:List (List UInt8)),a≠tTr by decide) nm hn),fun hh=>absurd hh ((show∀a∈([[98,108,111,99,107,113,117,111,116,101]]:List (List UInt8)),¬(a=tLi∨a∈tCell) by decide) nm hn)⟩
theorem kids_tab {nm:List UInt8} {k:AT} (hn:nm∈([[116,97,98,108,101]]:List (List UInt8))) (h:ofA [tBod] k):kidsA nm k:=⟨fun hh=>absurd hh ((show∀a∈([[116,97,98,108,101]]:List (List UInt8)),a∉tLn by decide) nm hn),fun hh=>absurd hh ((show∀a∈([[116,97,98,108,101]]:List (List UInt8)),a∉tIn by decide) nm hn),fun hh=>absurd hh ((show∀a∈([[116,97,98,108,101]]:List (List UInt8)),a∉tLf by decide) nm hn),fun hh=>absurd hh ((show∀a∈([[116,97,98,108,101]]:List (List UInt8)),¬(a=tOl∨a=tUl) by decide) nm hn),fun hh=>absurd hh ((show∀a∈([[116,97,98,108,101]]:List (List UInt8)),a≠tBq by decide) nm hn),fun _=>h,fun hh=>absurd hh ((show∀a∈([[116,97,98,108,101]]:List (List UInt8)),a≠tBod by decide) nm hn),fun hh=>absurd hh ((show∀a∈([[116,97,98,108,101]]:List (List UInt8)),a≠tTr by decide) nm hn),fun hh=>absurd hh ((show∀a∈([[116,97,98,108,101]]:List (List UInt8)),¬(a=tLi∨a∈tCell) by decide) nm hn)⟩
theorem kids_bod {nm:List UInt8} {k:AT} (hn:nm∈([[116,98,111,100,121]]:List (List UInt8))) (h:ofA [tTr] k):kidsA nm k:=⟨fun hh=>absurd hh ((show∀a∈([[116,98,111,100,121]]:List (List UInt8)),a∉tLn by decide) nm hn),fun hh=>absurd hh ((show∀a∈([[116,98,111,100,121]]:List (List UInt8)),a∉tIn by decide) nm hn),fun hh=>absurd hh ((show∀a∈([[116,98,111,100,121]]:List (List UInt8)),a∉tLf by decide) nm hn),fun hh=>absurd hh ((show∀a∈([[116,98,111,100,121]]:List (List UInt8)),¬(a=tOl∨a=tUl) by decide) nm hn),fun hh=>absurd hh ((show∀a∈([[116,98,111,100,121]]:List (List UInt8)),a≠tBq by decide) nm hn),fun hh=>absurd hh ((show∀a∈([[116,98,111,100,121]]:List (List UInt8)),a≠tTab by decide) nm hn),fun _=>h,fun hh=>absurd hh ((show∀a∈([[116,98,111,100,121]]:List (List UInt8)),a≠tTr by decide) nm hn),fun hh=>absurd hh ((show∀a∈([[116,98,111,100,121]]:List (List UInt8)),¬(a=tLi∨a∈tCell) by decide) nm hn)⟩
theorem kids_tr {nm:List UInt8} {k:AT} (hn:nm∈([[116,114]]:List (List UInt8))) (h:ofA tCell k):kidsA nm k:=⟨fun hh=>absurd hh ((show∀a∈([[116,114]]:List (List UInt8)),a∉tLn by decide) nm hn),fun hh=>absurd hh ((show∀a∈([[116,114]]:List (List UInt8)),a∉tIn by decide) nm hn),fun hh=>absurd hh ((show∀a∈([[116,114]]:List (List UInt8)),a∉tLf by decide) nm hn),fun hh=>absurd hh ((show∀a∈([[116,114]]:List (List UInt8)),¬(a=tOl∨a=tUl) by decide) nm hn),fun hh=>absurd hh ((show∀a∈([[116,114]]:List (List UInt8)),a≠tBq by decide) nm hn),fun hh=>absurd hh ((show∀a∈([[116,114]]:List (List UInt8)),a≠tTab by decide) nm hn),fun hh=>absurd hh ((show∀a∈([[116,114]]:List (List UInt8)),a≠tBod by decide) nm hn),fun _=>h,fun hh=>absurd hh ((show∀a∈([[116,114]]:List (List UInt8)),¬(a=tLi∨a∈tCell) by decide) nm hn)⟩
theorem kids_cell {nm:List UInt8} {k:AT} (hn:nm∈([[108,105],[116,100],[116,104]]:List (List UInt8))) (h:ofA tBlk k∨lineA k):kidsA nm k:=⟨fun hh=>absurd hh ((show∀a∈([[108,105],[116,100],[116,104]]:List (List UInt8)),a∉tLn by decide) nm hn),fun hh=>absurd hh ((show∀a∈([[108,105],[116,100],[116,104]]:List (List UInt8)),a∉tIn by decide) nm hn),fun hh=>absurd hh ((show∀a∈([[108,105],[116,100],[116,104]]:List (List UInt8)),a∉tLf by decide) nm hn),fun hh=>absurd hh ((show∀a∈([[108,105],[116,100],[116,104]]:List (List UInt8)),¬(a=tOl∨a=tUl) by decide) nm hn),fun hh=>absurd hh ((show∀a∈([[108,105],[116,100],[116,104]]:List (List UInt8)),a≠tBq by decide) nm hn),fun hh=>absurd hh ((show∀a∈([[108,105],[116,100],[116,104]]:List (List UInt8)),a≠tTab by decide) nm hn),fun hh=>absurd hh ((show∀a∈([[108,105],[116,100],[116,104]]:List (List UInt8)),a≠tBod by decide) nm hn),fun hh=>absurd hh ((show∀a∈([[108,105],[116,100],[116,104]]:List (List UInt8)),a≠tTr by decide) nm hn),fun _=>h⟩
theorem ofA_snoc {l:List (List UInt8)} {x:Hd} {k:AT} (hx:x.name∈l): ∀{t:AT},ofA l t→ofA l (t.snoc x k)
 | .nil,_=>⟨hx,trivial⟩
 | .cons y k' r,h=>⟨h.1,ofA_snoc hx (t:=r) h.2⟩
theorem deepA_snoc {x:Hd} {k:AT}: ∀(t:AT),deepA (t.snoc x k)=max (deepA t) (1+deepA k)
 | .nil=>by show max (1+deepA k) 0=max 0 (1+deepA k);omega
 | .cons y k' r=>by
  have:=deepA_snoc (x:=x) (k:=k) r
  show max (1+deepA k') (deepA (r.snoc x k))=max (max (1+deepA k') (deepA r)) (1+deepA k)
  rw [this];omega
theorem hasA_snoc {nm:List UInt8} {x:Hd} {k:AT}: ∀(t:AT),hasA nm (t.snoc x k)→hasA nm t∨x.name=nm∨hasA nm k
 | .nil,h=>by
  rcases h with h|h|h
  ·exact .inr (.inl h)
  ·exact .inr (.inr h)
  ·exact h.elim
 | .cons y k' r,h=>by
  rcases h with h|h|h
  ·exact .inl (.inl h)
  ·exact .inl (.inr (.inl h))
  ·rcases hasA_snoc r h with h|h
   ·exact .inl (.inr (.inr h))
   ·exact .inr h
theorem lineA_snoc {x:Hd} {k:AT} (hx:x.name= []∨x.name∈tInl): ∀(t:AT),lineA t→(x.name= []→lastNT t)→lineA (t.snoc x k)
 | .nil,_,_=>⟨hx,fun _=>rfl,trivial⟩
 | .cons y k' .nil,h,hl=>by
  refine ⟨h.1,fun hy=> ?_,hx,fun _=>rfl,trivial⟩
  show decide (x.name= [])=false
  exact decide_eq_false fun hn=>hl hn hy
 | .cons y k' (.cons z k2 r),h,hl=>by
  refine ⟨h.1,fun hy=> ?_,lineA_snoc hx (.cons z k2 r) h.2.2 hl⟩
  exact h.2.1 hy
theorem lastNT_snoc {x:Hd} {k:AT} (hx:x.name≠ []): ∀(t:AT),lastNT (t.snoc x k)
 | .nil=>hx
 | .cons y k' .nil=>hx
 | .cons y k' (.cons z k2 r)=>lastNT_snoc hx (.cons z k2 r)
theorem lastNT_drop {x:Hd} {k r0:AT} (hx:x.name≠ []): ∀(t:AT),t.dropN (t.len - 1)= .cons x k r0→lastNT t
 | .nil,h=>trivial
 | .cons y k' .nil,h=>by cases h;exact hx
 | .cons y k' (.cons z k2 r),h=>by
  exact lastNT_drop (x:=x) (k:=k) (r0:=r0) hx (.cons z k2 r) h
theorem shp_snoc {x:Hd} {k:AT} (hx:(x.name= []→x.text≠ [])∧(x.name≠ []→kidsA x.name k∧k.shp)): ∀(t:AT),t.shp→(t.snoc x k).shp
 | .nil,_=>⟨hx.1,hx.2,trivial⟩
 | .cons y k' r,h=>⟨h.1,h.2.1,shp_snoc hx r h.2.2⟩
theorem shp_retext {x:Hd} {k:AT} {tx:List UInt8} (ht:tx≠ []): ∀(t:AT),(t.snoc x k).shp→(t.snoc {x with text:=tx} k).shp
 | .nil,h=>⟨fun _=>ht,h.2.1,trivial⟩
 | .cons y k' r,h=>⟨h.1,h.2.1,shp_retext ht r h.2.2⟩
theorem headT_retext {x:Hd} {k:AT} {tx:List UInt8}: ∀(t:AT),headT (t.snoc {x with text:=tx} k)=headT (t.snoc x k)
 | .nil=>rfl
 | .cons y k' r=>rfl
theorem lineA_retext {x:Hd} {k:AT} {tx:List UInt8}: ∀(t:AT),lineA (t.snoc x k)→lineA (t.snoc {x with text:=tx} k)
 | .nil,h=>h
 | .cons y k' r,h=>⟨h.1,fun hy=>(headT_retext (x:=x) (k:=k) (tx:=tx) r).trans (h.2.1 hy),lineA_retext r h.2.2⟩
def AT.okc (l:List (List UInt8)) (D:Nat) (t:AT):Prop:=t.ok∧t.shp∧ofA l t∧deepA t≤D
def AT.okf (t:AT):Prop:=t.ok∧t.shp∧lineA t∧deepA t≤7
def AT.oki (D:Nat) (t:AT):Prop:=t.ok∧t.shp∧(ofA tBlk t∨lineA t)∧deepA t≤D
theorem AT.okc_nil (l:List (List UInt8)) (D:Nat):(AT.nil).okc l D:=⟨trivial,trivial,trivial,Nat.zero_le _⟩
theorem AT.okc_snoc {l:List (List UInt8)} {D:Nat} {t:AT} {x:Hd} {k:AT} (h:t.okc l D) (hx:HdOk x) (hn:x.name∈l) (hne:x.name≠ []) (hk:kidsA x.name k) (h1:k.ok) (h2:k.shp) (hd:1+deepA k≤D):(t.snoc x k).okc l D:=
 ⟨AT.snoc_ok h.1 hx h1,shp_snoc ⟨fun he=>absurd he hne,fun _=>⟨hk,h2⟩⟩ t h.2.1,ofA_snoc hn h.2.2.1,by rw [deepA_snoc];have:=h.2.2.2;omega⟩
end Go.Proofs.YtbcmiijollpgeaaGreat.T
