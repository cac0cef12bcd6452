import Derived.Test.YtbcmiijollpgeaaGreatWG
import Derived.Lib.AppendStr
set_option maxHeartbeats 32000000
set_option maxRecDepth 100000
set_option linter.unusedVariables false
set_option linter.unusedSimpArgs false
namespace Go.Z
open Go
end Go.Z
namespace Go.Proofs.YtbcmiijollpgeaaGreat.D
open Go Go.Z Go.Proofs
def RowsOk (w:World) (o8 o5:Nat→Prop):NT→List MN→Prop
 | .nil,ms=>ms= []
 | .cons x k r,ms=> ∃m q,ms=m::q∧HR w m x∧(0<x.attrs.length→ ∀b,m.attrs.ownBlock=some b→o5 b)∧
  (∃ks,RdS w 80 7 m.kids ks.length (encN ks)∧(0<ks.length→ ∀b,m.kids.ownBlock=some b→o8 b)∧RowsOk w o8 o5 k ks)∧RowsOk w o8 o5 r q
def TreeOk (w:World) (o8 o5:Nat→Prop) (v:Value) (t:NT):Prop:= ∃ms,RdS w 80 7 v ms.length (encN ms)∧(0<ms.length→ ∀b,v.ownBlock=some b→o8 b)∧RowsOk w o8 o5 t ms
section
variable {w w' : World} {o8 o8' o5 o5' : Nat → Prop} {S : Nat → Prop}
theorem RowsOk.rows: ∀(t:NT) (ms:List MN),RowsOk w o8 o5 t ms→Rows w t ms
 | .nil,ms,h=>h
 | .cons x k r,ms,h=>by
  obtain ⟨m,q,h1,h2,h3,⟨ks,h4,h5,h6⟩,h7⟩:=h
  exact ⟨m,q,h1,h2,⟨ks,h4,RowsOk.rows k ks h6⟩,RowsOk.rows r q h7⟩
theorem TreeOk.at' {v:Value} {t:NT} (h:TreeOk w o8 o5 v t):TreeAt w v t:=by
 obtain ⟨ms,h1,_,h2⟩:=h
 exact ⟨ms,h1,RowsOk.rows t ms h2⟩
theorem RowsOk.mono (h8: ∀b,b<w.heap.size→o8 b→o8' b) (h5: ∀b,b<w.heap.size→o5 b→o5' b): ∀(t:NT) (ms:List MN),RowsOk w o8 o5 t ms→RowsOk w o8' o5' t ms
 | .nil,ms,h=>h
 | .cons x k r,ms,h=>by
  obtain ⟨m,q,h1,h2,h3,⟨ks,h4,h6,h7⟩,h9⟩:=h
  exact ⟨m,q,h1,h2,fun hl b hb=>h5 b (RdS.ownLt h2.2.2.2.1 hl hb) (h3 hl b hb),⟨ks,h4,fun hl b hb=>h8 b (RdS.ownLt h4 hl hb) (h6 hl b hb),RowsOk.mono h8 h5 k ks h7⟩,RowsOk.mono h8 h5 r q h9⟩
theorem TreeOk.mono {v:Value} {t:NT} (h:TreeOk w o8 o5 v t) (h8: ∀b,b<w.heap.size→o8 b→o8' b) (h5: ∀b,b<w.heap.size→o5 b→o5' b):TreeOk w o8' o5' v t:=by
 obtain ⟨ms,h1,h2,h3⟩:=h
 exact ⟨ms,h1,fun hl b hb=>h8 b (RdS.ownLt h1 hl hb) (h2 hl b hb),RowsOk.mono h8 h5 t ms h3⟩
theorem RowsOk.chg (hc:Chg w w' S) (h8: ∀b cells,Blk w b 80 cells→o8 b→ ¬S b) (h5: ∀b cells,Blk w b 45 cells→o5 b→ ¬S b): ∀(t:NT) (ms:List MN),RowsOk w o8 o5 t ms→RowsOk w' o8 o5 t ms
 | .nil,ms,h=>h
 | .cons x k r,ms,h=>by
  obtain ⟨m,q,h1,h2,h3,⟨ks,h4,h6,h7⟩,h9⟩:=h
  refine ⟨m,q,h1,⟨h2.1,h2.2.1,h2.2.2.1,?_,h2.2.2.2.2⟩,h3,⟨ks,h4.chgAt hc (fun hl b cells hb hk=>h8 b cells hk (h6 hl b hb)),h6,RowsOk.chg hc h8 h5 k ks h7⟩,RowsOk.chg hc h8 h5 r q h9⟩
  obtain ⟨g1,g2,A,c,g3,g4,g5⟩:=h2.2.2.2.1
  refine ⟨g1,g2,A,c,g3,g4,fun hm=> ?_⟩
  obtain ⟨b,o,cells,g6,g7,g8⟩:=g5 hm
  exact ⟨b,o,cells,g6,g7.chg hc (h5 b cells g7 (h3 hm b (by rw [g3,g6];rfl))),g8⟩
theorem TreeOk.chg {v:Value} {t:NT} (h:TreeOk w o8 o5 v t) (hc:Chg w w' S) (h8: ∀b cells,Blk w b 80 cells→o8 b→ ¬S b) (h5: ∀b cells,Blk w b 45 cells→o5 b→ ¬S b):TreeOk w' o8 o5 v t:=by
 obtain ⟨ms,h1,h2,h3⟩:=h
 exact ⟨ms,h1.chgAt hc (fun hl b cells hb hk=>h8 b cells hk (h2 hl b hb)),h2,RowsOk.chg hc h8 h5 t ms h3⟩
theorem TreeOk.nil:TreeOk w o8 o5 (.slice none 0 0) .nil:=⟨[],RdS.nil,fun h=>absurd h (Nat.lt_irrefl 0),rfl⟩
end
def NT.app:NT→NT→NT
 | .nil,s=>s
 | .cons x k r,s=> .cons x k (r.app s)
def NT.snoc (t:NT) (x:Hd) (k:NT):NT:=t.app (.cons x k .nil)
theorem NT.app_nil: ∀t:NT,t.app .nil=t
 | .nil=>rfl
 | .cons x k r=>by simp only [NT.app,r.app_nil]
theorem NT.app_assoc: ∀a b c:NT,(a.app b).app c=a.app (b.app c)
 | .nil,b,c=>rfl
 | .cons x k r,b,c=>by simp only [NT.app,r.app_assoc b c]
theorem NT.snoc_app (t r:NT) (x:Hd) (k:NT):(t.snoc x k).app r=t.app (.cons x k r):=by
 unfold NT.snoc;rw [NT.app_assoc];rfl
theorem NT.app_len: ∀a b:NT,(a.app b).len=a.len+b.len
 | .nil,b=>by simp [NT.app,NT.len]
 | .cons x k r,b=>by simp only [NT.app,NT.len,r.app_len b];omega
theorem NT.snoc_len (t:NT) (x:Hd) (k:NT):(t.snoc x k).len=t.len+1:=by unfold NT.snoc;rw [NT.app_len];rfl
theorem RowsOk.snoc {w:World} {o8 o5:Nat→Prop} {m:MN} {x:Hd} {k:NT} (hm:HR w m x) (ha:0<x.attrs.length→ ∀b,m.attrs.ownBlock=some b→o5 b) (hk:TreeOk w o8 o5 m.kids k): ∀(t:NT) (ms:List MN),RowsOk w o8 o5 t ms→RowsOk w o8 o5 (t.snoc x k) (ms++ [m])
 | .nil,ms,h=>by
  cases h
  exact ⟨m,[],rfl,hm,ha,hk,rfl⟩
 | .cons y k' r,ms,h=>by
  obtain ⟨m',q,rfl,h2,h3,h4,h9⟩:=h
  exact ⟨m',q++ [m],rfl,h2,h3,h4,RowsOk.snoc hm ha hk r q h9⟩
def Out (B:Nat) (o5:Nat→Prop) (w:World) (vo:Value) (t:NT):Prop:= ∃ms,Own w 80 7 vo ms.length (encN ms)∧NewS B vo∧RowsOk w (fun b=>B≤b∧vo.ownBlock≠some b) o5 t ms
section
variable {B : Nat} {o5 : Nat → Prop} {w w' : World} {vo : Value} {t : NT}
theorem Out.nil:Out B o5 w (.slice none 0 0) .nil:=⟨[],Own.nil,(fun k hk=>by cases hk),rfl⟩
theorem Out.no (h:Out B o5 w vo t) (hc:Chg w w' No):Out B o5 w' vo t:=by
 obtain ⟨ms,h1,h2,h3⟩:=h
 exact ⟨ms,h1.no hc,h2,RowsOk.chg hc (fun _ _ _ _=>id) (fun _ _ _ _=>id) t ms h3⟩
theorem Out.form (h:Out B o5 w vo t): ∃A c,vo= .slice A t.len c∧t.len≤c:=by
 obtain ⟨ms,h1,h2,h3⟩:=h
 have:=h1.rd.form
 rwa [Rows.len t ms (RowsOk.rows t ms h3)] at this
theorem Out.tree (h:Out B o5 w vo t):TreeOk w (fun b=>B≤b) o5 vo t:=by
 obtain ⟨ms,h1,h2,h3⟩:=h
 exact ⟨ms,h1.rd,fun _ b hb=>h2 b hb,RowsOk.mono (fun b _ h=>h.1) (fun _ _ h=>h) t ms h3⟩
def MN.val (m:MN):Value:= .agg #[.int .i64 m.kind,.int .i64 m.space,.string m.name,m.attrs,.string m.text,.int .i64 m.fr,m.kids]
theorem RdS.node {w1:World} {b:Nat} {m:MN} {x:Hd} {ks:List MN} (hx:HR w m x) (hk:RdS w 80 7 m.kids ks.length (encN ks)) (h:New w w1 b 80 m.val.cells.toList):RdS w1 80 7 (.slice (some ⟨b,0,none⟩) 1 1) 1 (encN [m]):=by
 refine RdS.new h rfl ?_
 obtain ⟨A,c,hv,_⟩:=hx.2.2.2.1.form
 obtain ⟨A',c',hv',_⟩:=hk.form
 intro u hu
 simp only [encN,List.mem_cons,List.not_mem_nil,or_false] at hu
 rcases hu with rfl|rfl|rfl|rfl|rfl|rfl|rfl
 ·rfl
 ·rfl
 ·rfl
 ·rw [hv];rfl
 ·rfl
 ·rfl
 ·rw [hv'];rfl
theorem Out.push {w1 w2:World} {v':Value} {m:MN} {x:Hd} {k:NT} {ms:List MN} (g1:Own w 80 7 vo ms.length (encN ms)) (g2:NewS B vo) (g3:RowsOk w (fun b=>B≤b∧vo.ownBlock≠some b) o5 t ms) (hm:HR w m x) (ha:0<x.attrs.length→ ∀b,m.attrs.ownBlock=some b→o5 b) (hk:TreeOk w (fun b=>B≤b∧vo.ownBlock≠some b) o5 m.kids k) (hB:B≤w.heap.size)
  (h1:Chg w w1 No) (hO:Own w2 80 7 v' (ms.length+1) (encN ms++encN [m])) (hc:Chg w1 w2 (fun k=>vo.ownBlock=some k)) (hr:v'.ownBlock=vo.ownBlock∨ ∃k,v'.ownBlock=some k∧w1.heap.size≤k):Out B o5 w2 v' (t.snoc x k):=by
 refine ⟨ms++ [m],by rw [List.length_append,encN_app];exact hO,?_,?_⟩
 ·intro j hj
  rcases hr with e1|⟨q,e1,e2⟩
  ·exact g2 j (e1▸hj)
  ·rw [hj] at e1;cases e1;have:=h1.size;omega
 ·have h4:=RowsOk.snoc hm ha hk t ms g3
  have h5:=RowsOk.chg h1 (fun _ _ _ _=>id) (fun _ _ _ _=>id) _ _ h4
  have hO1:=g1.no h1
  have h6:=RowsOk.mono (o8':=fun b=>(B≤b∧vo.ownBlock≠some b)∧b<w1.heap.size) (o5':=o5) (fun b hb hq=>⟨hq,hb⟩) (fun _ _ hq=>hq) _ _ h5
  have h7:=RowsOk.chg hc (fun b _ _ hb=>hb.1.2) (fun b cells hb _ he=>hO1.ne he hb (by decide) rfl) _ _ h6
  refine RowsOk.mono (fun b _ hq=>⟨hq.1.1,fun he=> ?_⟩) (fun _ _ hq=>hq) _ _ h7
  rcases hr with e1|⟨q,e1,e2⟩
  ·exact hq.1.2 (e1▸he)
  ·rw [he] at e1;cases e1;omega
end
end Go.Proofs.YtbcmiijollpgeaaGreat.D
namespace Go.Z
open Go
section
variable {w w' : World} {t : Nat} {v : Value} {l : List UInt8} {S : Nat → Prop}
end
section
variable {P : Program} {n : Nat} {e : Env} {w : World} {Q : Exit → Act → World → Prop} {ops : Array Oper} {rest : List Oper}
variable {d : Tmp} {ty : TypeId} {pos : String} {aft : Array Edge} {g : Option (Nat × Bool)}
end
end Go.Z
namespace Go.Proofs.YtbcmiijollpgeaaGreat.D
open Go Go.Z Go.Proofs
structure ND where
 kind:Int
 space:Int
 name:ByteArray
 attrs:List At
 text:List UInt8
 up:Int
 kids:List Nat
structure PN where
 b:Nat
 va:Value
 vt:Value
 vk:Value
def n0:ND:=⟨0,0,⟨#[]⟩,[],[], -1,[]⟩
def intC (l:List Nat):List Value:=l.map (fun k=> .int .i64 ((k:Nat):Int))
theorem intC_len (l:List Nat):(intC l).length=l.length*1:=by simp [intC]
theorem intC_one (l:List Nat): ∀u∈intC l,u.oneCell'=true:=by
 intro u hu
 obtain ⟨s,_,rfl⟩:=List.mem_map.1 hu
 rfl
theorem intC_get (l:List Nat) (i:Nat) (h:i<l.length):(intC l)[i]? =some (.int .i64 ((l.getD i 0:Nat):Int)):=by
 simp [intC,List.getElem?_map,List.getElem?_eq_getElem h,List.getD_eq_getElem?_getD]
theorem intC_app (l r:List Nat):intC (l++r)=intC l++intC r:=List.map_append
section
variable {w w' : World} {p : Nat} {vl : Value} {Q : List PN} {N : List ND} {S : Nat → Prop}
end
def pv (p:Nat):Value:= .pointer (some ⟨p,0,none⟩)
def isN (N:List ND) (n:Int):Prop:=0≤n∧n<N.length
instance (N:List ND) (n:Int):Decidable (isN N n):=by unfold isN;infer_instance
def ndOf (N:List ND) (n:Int):ND:=N.getD n.toNat n0
theorem getD_set {α:Type} (l:List α) (i j:Nat) (x d:α) (hi:i<l.length):(l.set i x).getD j d=if j=i then x else l.getD j d:=by
 rw [List.getD_eq_getElem?_getD,List.getElem?_set]
 by_cases h:i=j
 ·subst h;simp [hi]
 ·rw [if_neg h,if_neg (fun h'=>h h'.symm),List.getD_eq_getElem?_getD]
section
variable {w w' w1 w2 : World} {p : Nat} {vl vl1 vl2 : Value} {Q Q1 Q2 : List PN} {N : List ND} {S : Nat → Prop}
end
structure WF (N:List ND):Prop where
 pos:0<N.length
 root:(N.getD 0 n0).up= -1
 rootk:(N.getD 0 n0).kind=1
 up: ∀i,i<N.length→ -1≤(N.getD i n0).up∧(N.getD i n0).up<N.length
 kid: ∀i k,i<N.length→(k∈(N.getD i n0).kids↔k<N.length∧(N.getD k n0).up=i)
 nodup: ∀i,i<N.length→(N.getD i n0).kids.Nodup
 rank: ∃d:Nat→Nat,∀i,i<N.length→ ∀j:Nat,(N.getD i n0).up=j→d j<d i
inductive Anc (N:List ND):Nat→Nat→Prop
 |refl (n:Nat):Anc N n n
 |step (n m top:Nat):(N.getD n n0).up=(m:Nat)→Anc N m top→Anc N n top
theorem Anc.kid {N:List ND} (h:WF N) {n top:Nat} (ha:Anc N n top) (hn:n<N.length):n=top∨ ∃k,k∈(N.getD top n0).kids:=by
 induction ha with
 |refl n=>exact .inl rfl
 |step n m top hu ha ih=>
  have hm:m<N.length:=by have:=(h.up n hn).2;omega
  rcases ih hm with rfl|h1
  ·exact .inr ⟨n,(h.kid m n hm).2 ⟨hn,hu⟩⟩
  ·exact .inr h1
def findK (K:List Nat) (a:Nat):Nat→Option Nat
 |0=>none
 |n+1=>if K.getD n 0=a then some n else findK K a n
def placeN (K:List Nat) (ahead:Int):Option Nat:=if ahead= -1 then some K.length else if 0≤ahead then findK K ahead.toNat K.length else none
theorem findK_none {K:List Nat} {a:Nat} (h:a∉K): ∀n,n≤K.length→findK K a n=none
 |0,_=>rfl
 |n+1,hn=>by
  unfold findK
  rw [if_neg,findK_none h n (by omega)]
  intro he
  apply h
  rw [←he,List.getD_eq_getElem?_getD,List.getElem?_eq_getElem (by omega)]
  exact List.getElem_mem _
theorem findK_some {K:List Nat} {a i:Nat}: ∀n,findK K a n=some i→i<n∧K.getD i 0=a
 |0,h=>by cases h
 |n+1,h=>by
  unfold findK at h
  split at h
  ·cases h;exact ⟨by omega,by assumption⟩
  ·have:=findK_some n h;exact ⟨by omega,this.2⟩
theorem nodup_le: ∀(n:Nat) (l:List Nat),l.Nodup→(∀k∈l,k<n)→l.length≤n
 |0,l,_,h=>by
  cases l with
  |nil=>simp
  |cons a r=>exact absurd (h a (by simp)) (by omega)
 |n+1,l,hd,h=>by
  have h1:=nodup_le n (l.erase n) (hd.erase n) (fun k hk=>by
   have hk1:=List.mem_of_mem_erase hk
   have:=h k hk1
   have hne:k≠n:=fun he=>by subst he;exact hd.not_mem_erase hk
   omega)
  have h2:= @List.le_length_erase _ _ _ n l
  omega
theorem WF.kids_len {N:List ND} (h:WF N) {i:Nat} (hi:i<N.length):(N.getD i n0).kids.length≤N.length:=
 nodup_le _ _ (h.nodup i hi) (fun k hk=>((h.kid i k hi).1 hk).1)
theorem getD_snoc {α:Type} (N:List α) (x d:α) (i:Nat):(N++ [x]).getD i d=if i=N.length then x else N.getD i d:=by
 rw [List.getD_eq_getElem?_getD,List.getD_eq_getElem?_getD,List.getElem?_append]
 by_cases h:i<N.length
 ·rw [if_pos h,if_neg (by omega)]
 ·rw [if_neg h]
  by_cases h2:i=N.length
  ·subst h2;simp
  ·rw [if_neg h2,List.getElem?_eq_none (by simp;omega),List.getElem?_eq_none (by omega)]
theorem getD_add (N:List ND) (x:ND) (i:Nat):(N++ [x]).getD i n0=if i=N.length then x else N.getD i n0:=getD_snoc N x n0 i
theorem WF.add {N:List ND} (h:WF N) {x:ND} (hu:x.up= -1) (hk:x.kids= []):WF (N++ [x]):=by
 have hp:=h.pos
 have key: ∀i,i<(N++ [x]).length→i≠N.length→i<N.length:=fun i hi hn=>by simp at hi;omega
 refine ⟨by simp,?_,?_,?_,?_,?_,?_⟩
 ·rw [getD_add,if_neg (by omega)];exact h.root
 ·rw [getD_add,if_neg (by omega)];exact h.rootk
 ·intro i hi
  rw [getD_add]
  split
  ·rw [hu];rw [List.length_append,List.length_singleton];omega
  ·have:=h.up i (key i hi (by assumption));refine ⟨this.1,?_⟩;rw [List.length_append,List.length_singleton];omega
 ·intro i k hi
  rw [getD_add,getD_add]
  by_cases h1:i=N.length
  ·rw [if_pos h1,hk]
   refine iff_of_false (by simp) ?_
   rintro ⟨h2,h3⟩
   split at h3
   ·rw [hu] at h3;omega
   ·have:=(h.up k (key k h2 (by assumption))).2;omega
  ·rw [if_neg h1,h.kid i k (key i hi h1)]
   by_cases h2:k=N.length
   ·rw [if_pos h2,hu];exact iff_of_false (by omega) (by omega)
   ·rw [if_neg h2,List.length_append,List.length_singleton]
    exact ⟨fun h=>⟨by omega,h.2⟩,fun h=>⟨by omega,h.2⟩⟩
 ·intro i hi
  rw [getD_add]
  split
  ·rw [hk];simp
  ·exact h.nodup i (key i hi (by assumption))
 ·obtain ⟨d,hd⟩:=h.rank
  refine ⟨d,fun i hi j hj=> ?_⟩
  rw [getD_add] at hj
  split at hj
  ·rw [hu] at hj;omega
  ·exact hd i (key i hi (by assumption)) j hj
theorem WF.congr {N N':List ND} (h:WF N) (hl:N'.length=N.length) (hu: ∀i,(N'.getD i n0).up=(N.getD i n0).up) (hk: ∀i,(N'.getD i n0).kids=(N.getD i n0).kids) (h0:(N'.getD 0 n0).kind=(N.getD 0 n0).kind):WF N':=by
 refine ⟨by rw [hl];exact h.pos,by rw [hu];exact h.root,by rw [h0];exact h.rootk,?_,?_,?_,?_⟩
 ·intro i hi;rw [hu,hl];exact h.up i (by omega)
 ·intro i k hi;rw [hu,hl,hk];exact h.kid i k (by omega)
 ·intro i hi;rw [hk];exact h.nodup i (by omega)
 ·obtain ⟨d,hd⟩:=h.rank
  exact ⟨d,fun i hi j hj=>hd i (by omega) j (by rw [←hu];exact hj)⟩
theorem Anc.rank {N:List ND} (h:WF N) {d:Nat→Nat} (hd: ∀i,i<N.length→ ∀j:Nat,(N.getD i n0).up=j→d j<d i) {n top:Nat} (ha:Anc N n top) (hn:n<N.length):d top≤d n:=by
 induction ha with
 |refl n=>exact Nat.le_refl _
 |step n m top hu ha ih=>
  have hm:m<N.length:=by have:=(h.up n hn).2;omega
  have:=hd n hn m hu
  have:=ih hm
  omega
theorem Anc.trans {N:List ND} {a b c:Nat} (h1:Anc N a b) (h2:Anc N b c):Anc N a c:=by
 induction h1 with
 |refl n=>exact h2
 |step n m top hu ha ih=>exact .step n m c hu (ih h2)
theorem Anc.lin {N:List ND} {i a b:Nat} (h1:Anc N i a) (h2:Anc N i b):Anc N a b∨Anc N b a:=by
 induction h1 with
 |refl n=>exact .inl h2
 |step n m top hu ha ih=>
  cases h2 with
  |refl=>exact .inr (.step _ m top hu ha)
  |step _ m' _ hu' ha'=>
   have:m'=m:=by rw [hu] at hu';omega
   subst this;exact ih ha'
def insK (K:List Nat) (at_ n:Nat):List Nat:=K.take at_++n::K.drop at_
theorem insK_mem {K:List Nat} {a n k:Nat}:k∈insK K a n↔k=n∨k∈K:=by
 unfold insK
 have:K=K.take a++K.drop a:=(List.take_append_drop a K).symm
 conv=>rhs;rw [this]
 simp only [List.mem_append,List.mem_cons]
 constructor
 ·rintro (h|h|h)
  ·exact .inr (.inl h)
  ·exact .inl h
  ·exact .inr (.inr h)
 ·rintro (h|h|h)
  ·exact .inr (.inl h)
  ·exact .inl h
  ·exact .inr (.inr h)
theorem insK_nodup {K:List Nat} {a n:Nat} (h:K.Nodup) (hn:n∉K):(insK K a n).Nodup:=by
 unfold insK
 rw [(List.perm_middle (a:=n) (l₁:=K.take a) (l₂:=K.drop a)).nodup_iff,List.take_append_drop]
 exact List.nodup_cons.2 ⟨hn,h⟩
def layN (N:List ND) (n up at_:Nat):List ND:=(N.set up {N.getD up n0 with kids:=insK (N.getD up n0).kids at_ n}).set n {N.getD n n0 with up:=up}
theorem layN_len (N:List ND) (n up a:Nat):(layN N n up a).length=N.length:=by simp [layN]
theorem layN_get {N:List ND} {n up a:Nat} (hn:n<N.length) (hu:up<N.length) (i:Nat):(layN N n up a).getD i n0=if i=n then {N.getD n n0 with up:=up} else if i=up then {N.getD up n0 with kids:=insK (N.getD up n0).kids a n} else N.getD i n0:=by
 unfold layN
 rw [getD_set _ _ _ _ _ (by simpa using hn),getD_set _ _ _ _ _ hu]
theorem WF.lay {N:List ND} (h:WF N) {n up:Nat} (a:Nat) (hn:n<N.length) (hu:up<N.length) (h0:(N.getD n n0).up= -1) (hna: ¬Anc N up n) (hr:n≠0):WF (layN N n up a):=by
 have hne:n≠up:=fun he=>hna (he▸Anc.refl n)
 have eu: ∀i,((layN N n up a).getD i n0).up=if i=n then (up:Int) else (N.getD i n0).up:=fun i=>by
  rw [layN_get hn hu]
  split
  ·rfl
  ·split
   ·rename_i h1;rw [h1]
   ·rfl
 have ek: ∀i,((layN N n up a).getD i n0).kids=if i=up then insK (N.getD up n0).kids a n else (N.getD i n0).kids:=fun i=>by
  rw [layN_get hn hu]
  by_cases h1:i=n
  ·rw [if_pos h1,if_neg (by omega),h1]
  ·rw [if_neg h1];split<;>rfl
 have hnk:n∉(N.getD up n0).kids:=fun hm=>by
  have:=((h.kid up n hu).1 hm).2;omega
 refine ⟨by rw [layN_len];exact h.pos,?_,?_,?_,?_,?_,?_⟩
 ·rw [eu,if_neg (fun he=>hr he.symm)];exact h.root
 ·rw [layN_get hn hu,if_neg (fun he=>hr he.symm)]
  split
  ·rename_i h1;have:=h.rootk;rw [h1] at this;exact this
  ·exact h.rootk
 ·intro i hi
  rw [layN_len] at hi ⊢
  rw [eu]
  split
  ·omega
  ·exact h.up i hi
 ·intro i k hi
  rw [layN_len] at hi ⊢
  rw [eu,ek]
  by_cases h1:i=up
  ·rw [if_pos h1,insK_mem,h.kid up k hu]
   by_cases h2:k=n
   ·rw [if_pos h2];exact iff_of_true (.inl h2) ⟨by omega,by omega⟩
   ·rw [if_neg h2,h1]
    constructor
    ·rintro (h3|h3)
     ·exact absurd h3 h2
     ·exact h3
    ·exact fun h3=> .inr h3
  ·rw [if_neg h1,h.kid i k hi]
   by_cases h2:k=n
   ·rw [if_pos h2,h2,h0];exact iff_of_false (by omega) (by omega)
   ·rw [if_neg h2]
 ·intro i hi
  rw [layN_len] at hi
  rw [ek]
  split
  ·exact insK_nodup (h.nodup up hu) hnk
  ·exact h.nodup i hi
 ·obtain ⟨d,hd⟩:=h.rank
  classical
  refine ⟨fun i=>if Anc N i n then d i+d up+1 else d i,fun i hi j hj=> ?_⟩
  rw [layN_len] at hi
  rw [eu] at hj
  dsimp only
  split at hj
  ·rename_i h1
   have:j=up:=by omega
   subst this
   rw [if_neg hna,if_pos (by rw [h1];exact Anc.refl n)];omega
  ·rename_i h1
   have h2:=hd i hi j hj
   by_cases h3:Anc N j n
   ·rw [if_pos h3,if_pos (.step i j n hj h3)];omega
   ·rw [if_neg h3,if_neg]
    ·exact h2
    ·intro h4
     cases h4 with
     |refl=>exact h1 rfl
     |step _ m _ hu' ha'=>
      have:m=j:=by rw [hj] at hu';omega
      subst this;exact h3 ha'
theorem findK_eq {K:List Nat} (h:K.Nodup) {a i:Nat} (hi:i<K.length) (ha:K.getD i 0=a): ∀n,i<n→n≤K.length→findK K a n=some i
 |0,h1,_=>by omega
 |n+1,h1,h2=>by
  unfold findK
  by_cases he:i=n
  ·subst he;rw [if_pos ha]
  ·rw [if_neg,findK_eq h hi ha n (by omega) (by omega)]
   intro hh
   exact he ((List.getD_inj hi (by omega) h).1 (ha.trans hh.symm))
def hdOf (x:ND):Hd:=⟨x.kind,x.space,x.name,x.attrs,bs x.text,0⟩
inductive TF (N:List ND):List Nat→NT→Prop
 |nil:TF N [] .nil
 |cons (k:Nat) (r:List Nat) (tk tr:NT):TF N (N.getD k n0).kids tk→TF N r tr→TF N (k::r) (.cons (hdOf (N.getD k n0)) tk tr)
theorem TF.len {N:List ND} {ks:List Nat} {t:NT} (h:TF N ks t):t.len=ks.length:=by
 induction h with
 |nil=>rfl
 |cons k r tk tr _ _ ih1 ih2=>simp [NT.len,ih2]
theorem TF.drop {N:List ND} {ks:List Nat} {t:NT} (h:TF N ks t): ∀i,TF N (ks.drop i) (t.dropN i):=by
 induction h with
 |nil=>intro i;cases i<;>exact .nil
 |cons k r tk tr h1 h2 ih1 ih2=>
  intro i
  cases i with
  |zero=>exact .cons k r tk tr h1 h2
  |succ i=>exact ih2 i
theorem TF.ids {N:List ND} (h:WF N) {ks:List Nat} {t:NT} (ht:TF N ks t):(∀k∈ks,k<N.length)→
  ∃l:List Nat,l.length=t.size∧(∀i∈l,i<N.length∧ ∃k∈ks,Anc N i k)∧ ∀p:Nat,ks.Nodup→(∀k∈ks,(N.getD k n0).up=p)→l.Nodup:=by
 obtain ⟨d,hd⟩:=h.rank
 have sib: ∀{k k' p:Nat},k<N.length→k'<N.length→(N.getD k n0).up=(p:Nat)→(N.getD k' n0).up=(p:Nat)→Anc N k k'→k=k':=fun {k k' p} hk hk' h1 h2 ha=>by
  cases ha with
  |refl=>rfl
  |step _ m _ hu ha=>
   have:m=p:=by rw [h1] at hu;omega
   subst this
   have:=Anc.rank h hd ha (by have:=(h.up k hk).2;omega)
   have:=hd k' hk' m h2
   omega
 induction ht with
 |nil=>exact fun _=>⟨[],rfl,by simp,by simp⟩
 |cons k r tk tr h1 h2 ih1 ih2=>
  intro hlt
  have hk:=hlt k (by simp)
  obtain ⟨l1,a1,b1,c1⟩:=ih1 (fun j hj=>((h.kid k j hk).1 hj).1)
  obtain ⟨l2,a2,b2,c2⟩:=ih2 (fun j hj=>hlt j (by simp [hj]))
  have b1': ∀i∈l1,i<N.length∧Anc N i k∧i≠k:=fun i hi=>by
   obtain ⟨h3,j,hj,h4⟩:=b1 i hi
   obtain ⟨h5,h6⟩:=(h.kid k j hk).1 hj
   refine ⟨h3,h4.trans (.step j k k h6 (Anc.refl k)),fun he=> ?_⟩
   have:=Anc.rank h hd h4 h3
   have:=hd j h5 k h6
   rw [he] at*
   omega
  refine ⟨k::(l1++l2),by simp [NT.size,a1,a2],?_,?_⟩
  ·intro i hi
   simp only [List.mem_cons,List.mem_append] at hi
   rcases hi with rfl|hi|hi
   ·exact ⟨hk,i,by simp,Anc.refl i⟩
   ·exact ⟨(b1' i hi).1,k,by simp,(b1' i hi).2.1⟩
   ·obtain ⟨h3,j,hj,h4⟩:=b2 i hi
    exact ⟨h3,j,by simp [hj],h4⟩
  ·intro p hnd hp
   have hnd':=List.nodup_cons.1 hnd
   have hkp:=hp k (by simp)
   have dis: ∀i,Anc N i k→i∈l2→False:=fun i hi hm=>by
    obtain ⟨h3,j,hj,h4⟩:=b2 i hm
    have hjl:=hlt j (by simp [hj])
    have hjp:=hp j (by simp [hj])
    have hjk:j≠k:=fun he=>by subst he;exact hnd'.1 hj
    rcases hi.lin h4 with h5|h5
    ·exact hjk (sib hk hjl hkp hjp h5).symm
    ·exact hjk (sib hjl hk hjp hkp h5)
   refine List.nodup_cons.2 ⟨?_,List.nodup_append.2 ⟨c1 k (h.nodup k hk) (fun j hj=>((h.kid k j hk).1 hj).2),c2 p hnd'.2 (fun j hj=>hp j (by simp [hj])),fun x hx y hy hxy=> ?_⟩⟩
   ·rw [List.mem_append]
    rintro (h3|h3)
    ·exact (b1' k h3).2.2 rfl
    ·exact dis k (Anc.refl k) h3
   ·subst hxy;exact dis x (b1' x hx).2.1 hy
theorem TF.size {N:List ND} (h:WF N) {n:Nat} (hn:n<N.length) {t:NT} (ht:TF N (N.getD n n0).kids t):t.size≤N.length:=by
 obtain ⟨l,h1,h2,h3⟩:=TF.ids h ht (fun k hk=>((h.kid n k hn).1 hk).1)
 rw [←h1]
 exact nodup_le _ _ (h3 n (h.nodup n hn) (fun k hk=>((h.kid n k hn).1 hk).2)) (fun k hk=>(h2 k hk).1)
section
variable {w w' w2 w3 w4 : World} {p : Nat} {vl v3 : Value} {Q : List PN} {N : List ND} {q : PN} {x : ND}
end
def rootN:List ND:= [⟨1,1,⟨#[]⟩,[],[], -1,[]⟩]
theorem rootN_WF:WF rootN:=by
 refine ⟨by decide,rfl,rfl,?_,?_,?_,⟨fun _=>0,?_⟩⟩
 ·intro i hi
  have:i=0:=by simp [rootN] at hi;omega
  subst this;decide
 ·intro i k hi
  have:i=0:=by simp [rootN] at hi;omega
  subst this
  refine iff_of_false (by simp [rootN]) ?_
  rintro ⟨h1,h2⟩
  have:k=0:=by simp [rootN] at h1;omega
  subst this
  exact absurd h2 (by decide)
 ·intro i hi
  have:i=0:=by simp [rootN] at hi;omega
  subst this;exact List.nodup_nil
 ·intro i hi j hj
  have:i=0:=by simp [rootN] at hi;omega
  subst this
  have:(-1:Int)=j:=hj
  omega
theorem ev_ptr {e:Env} {x:Operand} {b o o':Nat} (h:ev e x=some (.pointer (some ⟨b,o,none⟩))) (ho:o=o'):ev e x=some (.pointer (some ⟨b,o',none⟩)):=by rw [h,ho]
theorem intC_ins (K:List Nat) (a n:Nat):intC (insK K a n)=(intC K).take a++ .int .i64 ((n:Nat):Int)::(intC K).drop a:=by simp [intC,insK,List.map_take,List.map_drop]
theorem placeN_le {K:List Nat} {ahead:Int} {a:Nat} (h:placeN K ahead=some a):a≤K.length:=by
 unfold placeN at h
 split at h
 ·cases h;exact Nat.le_refl _
 ·split at h
  ·have:=findK_some _ h;omega
  ·cases h
def PutOk (N:List ND) (n up ahead:Int):Prop:=isN N n∧isN N up∧(ndOf N up).kind=1∧n≠0∧(ndOf N n).up<0∧ ¬Anc N up.toNat n.toNat∧(placeN (ndOf N up).kids ahead).isSome=true
def PutR (N:List ND) (n up ahead:Int) (q:Bool) (N':List ND):Prop:=(PutOk N n up ahead→q=true∧N'=layN N n.toNat up.toNat ((placeN (ndOf N up).kids ahead).getD 0))∧(¬PutOk N n up ahead→q=false∧N'=N)
def WriteOk (N:List ND) (up ahead:Int):Prop:=isN N up∧(ndOf N up).kind=1∧(placeN (ndOf N up).kids ahead).isSome=true
def lastK (N:List ND) (up a:Nat):Nat:=(N.getD up n0).kids.getD (a - 1) 0
def textN (s:List UInt8):ND:=⟨2,0,⟨#[]⟩,[],s, -1,[]⟩
def writeN (N:List ND) (s:List UInt8) (up a:Nat):List ND:=
 if s= [] then N else if 0<a∧(N.getD (lastK N up a) n0).kind=2 then N.set (lastK N up a) {N.getD (lastK N up a) n0 with text:=(N.getD (lastK N up a) n0).text++s}
 else layN (N++ [textN s]) N.length up a
def WriteR (N:List ND) (s:List UInt8) (up ahead:Int) (q:Bool) (N':List ND):Prop:=(WriteOk N up ahead→q=true∧N'=writeN N s up.toNat ((placeN (ndOf N up).kids ahead).getD 0))∧(¬WriteOk N up ahead→q=false∧N'=N)
theorem Anc.fresh {N:List ND} (h:WF N) {n top:Nat} (hn:n<N.length) (hk:(N.getD top n0).kids= []) (ha:Anc N n top):n=top:=by
 rcases ha.kid h hn with h1|⟨k,h1⟩
 ·exact h1
 ·rw [hk] at h1;cases h1
theorem getD_mem {α:Type} {d:α} {l:List α} {k:Nat} (h:k<l.length):l.getD k d∈l:=by
 rw [List.getD_eq_getElem?_getD,List.getElem?_eq_getElem h];exact List.getElem_mem h
theorem lastK_lt {N:List ND} (h:WF N) {up a:Nat} (hu:up<N.length) (ha:0<a) (hal:a≤(N.getD up n0).kids.length):lastK N up a<N.length:=by
 refine ((h.kid up _ hu).1 ?_).1
 exact getD_mem (by omega)
theorem writeN_wf {N:List ND} (h:WF N) (s:List UInt8) {up a:Nat} (hu:up<N.length) (hal:a≤(N.getD up n0).kids.length):WF (writeN N s up a)∧(writeN N s up a).length≤N.length+1:=by
 unfold writeN
 split
 ·exact ⟨h,by omega⟩
 ·split
  ·rename_i hc
   have hlt:=lastK_lt h hu hc.1 hal
   refine ⟨h.congr (by simp) (fun i=> ?_) (fun i=> ?_) ?_,by simp⟩
   ·rw [getD_set _ _ _ _ _ hlt];split
    ·rename_i h1;rw [h1]
    ·rfl
   ·rw [getD_set _ _ _ _ _ hlt];split
    ·rename_i h1;rw [h1]
    ·rfl
   ·rw [getD_set _ _ _ _ _ hlt];split
    ·rename_i h1;rw [h1]
    ·rfl
  ·have h1:=h.add (x:=textN s) rfl rfl
   refine ⟨h1.lay a (by simp) (by simp;omega) (by rw [getD_add,if_pos rfl];rfl) (fun ha=> ?_) (by have:=h.pos;omega),by rw [layN_len];simp⟩
   have:=Anc.fresh h1 (by simp;omega) (by rw [getD_add,if_pos rfl];rfl) ha
   omega
theorem WriteR.wf {N N':List ND} {s:List UInt8} {up ahead:Int} {q:Bool} (h:WriteR N s up ahead q N') (hW:WF N):WF N'∧N'.length≤N.length+1:=by
 by_cases ho:WriteOk N up ahead
 ·rw [(h.1 ho).2]
  obtain ⟨h1,h2,h3⟩:=ho
  obtain ⟨a,ha⟩:=Option.isSome_iff_exists.1 h3
  rw [ha]
  have:=h1.1;have:=h1.2
  exact writeN_wf hW s (by omega) (placeN_le ha)
 ·rw [(h.2 ho).2];exact ⟨hW,by omega⟩
theorem drop_cons {α:Type} (d:α) (l:List α) (k:Nat) (h:k<l.length):l.drop k=l.getD k d::l.drop (k+1):=by
 rw [List.drop_eq_getElem_cons h,List.getD_eq_getElem?_getD,List.getElem?_eq_getElem h];rfl
def nodeOf (N:List ND) (n:Int):ND:=if isN N n then ndOf N n else n0
section
variable {w0 w w' : World} {p : Nat} {vl vl' : Value} {Q Q' : List PN} {N N' : List ND}
end
section
variable {w0 w : World} {p : Nat} {vl : Value} {Q : List PN} {N : List ND}
end
abbrev nV:Value:= .slice none 0 0
def upC (N:List ND):List Value:=N.map (fun x=> .int .i64 x.up)
theorem upC_get (N:List ND) (i:Nat) (h:i<N.length):(upC N)[i]? =some (.int .i64 (N.getD i n0).up):=by
 simp [upC,List.getElem?_map,List.getElem?_eq_getElem h,List.getD_eq_getElem?_getD]
theorem upC_app (l r:List ND):upC (l++r)=upC l++upC r:=List.map_append
def RN (w:World) (m:MN) (x:ND):Prop:=HR w m (hdOf x)∧m.kids=nV
structure IsR (w:World) (p:Nat) (vn vu vr:Value) (ms:List MN) (ks:List Value) (N:List ND):Prop where
 blk:Blk w p 106 [vn,vu,vr]
 own:Own w 80 7 vn N.length (encN ms)
 ups:Own w 3 1 vu N.length (upC N)
 rws:Own w 22 1 vr N.length ks
 lm:ms.length=N.length
 lk:ks.length=N.length
 at_: ∀i,i<N.length→RN w (ms.getD i MN.z) (N.getD i n0)
 kid: ∀i,i<N.length→Own w 3 1 (ks.getD i nV) (N.getD i n0).kids.length (intC (N.getD i n0).kids)∧ ∀k,(ks.getD i nV).ownBlock=some k→vu.ownBlock≠some k
def fR (p:Nat) (vn vu vr:Value) (ks:List Value) (k:Nat):Prop:=k=p∨vn.ownBlock=some k∨vu.ownBlock=some k∨vr.ownBlock=some k∨ ∃i,i<ks.length∧(ks.getD i nV).ownBlock=some k
section
variable {w w' w1 w2 : World} {p : Nat} {vn vu vr : Value} {ms : List MN} {ks : List Value} {N : List ND} {S : Nat → Prop}
theorem HR.chg' {m:MN} {x:Hd} (h:HR w m x) (hc:Chg w w' S) (h45: ∀b cells,Blk w b 45 cells→ ¬S b):HR w' m x:=⟨h.1,h.2.1,h.2.2.1,RdS.chg h.2.2.2.1 hc h45,h.2.2.2.2⟩
theorem IsR.chg (h:IsR w p vn vu vr ms ks N) (hc:Chg w w' S) (hS: ∀k,fR p vn vu vr ks k→ ¬S k) (h45: ∀b cells,Blk w b 45 cells→ ¬S b):IsR w' p vn vu vr ms ks N:=
 ⟨h.blk.chg hc (hS _ (.inl rfl)),h.own.chg hc (fun k hk=>hS k (.inr (.inl hk))),h.ups.chg hc (fun k hk=>hS k (.inr (.inr (.inl hk)))),h.rws.chg hc (fun k hk=>hS k (.inr (.inr (.inr (.inl hk))))),h.lm,h.lk,
  fun i hi=>⟨(h.at_ i hi).1.chg' hc h45,(h.at_ i hi).2⟩,fun i hi=>⟨(h.kid i hi).1.chg hc (fun k hk=>hS k (.inr (.inr (.inr (.inr ⟨i,by rw [h.lk];exact hi,hk⟩))))),(h.kid i hi).2⟩⟩
theorem IsR.no (h:IsR w p vn vu vr ms ks N) (hc:Chg w w' No):IsR w' p vn vu vr ms ks N:=h.chg hc (fun _ _=>id) (fun _ _ _=>id)
theorem IsR.lt (h:IsR w p vn vu vr ms ks N): ∀k,fR p vn vu vr ks k→k<w.heap.size:=by
 rintro k (rfl|hk|hk|hk|⟨i,hi,hk⟩)
 ·exact h.blk.lt
 ·exact h.own.lt hk
 ·exact h.ups.lt hk
 ·exact h.rws.lt hk
 ·exact (h.kid i (by rw [←h.lk];exact hi)).1.lt hk
theorem IsR.no45 (h:IsR w p vn vu vr ms ks N): ∀b cells,Blk w b 45 cells→ ¬fR p vn vu vr ks b:=by
 rintro b cells hb (rfl|hk|hk|hk|⟨i,hi,hk⟩)
 ·exact absurd (h.blk.inj hb).1 (by decide)
 ·exact h.own.ne hk hb (by decide) rfl
 ·exact h.ups.ne hk hb (by decide) rfl
 ·exact h.rws.ne hk hb (by decide) rfl
 ·exact (h.kid i (by rw [←h.lk];exact hi)).1.ne hk hb (by decide) rfl
theorem IsR.formN (h:IsR w p vn vu vr ms ks N): ∃A c,vn= .slice A N.length c∧N.length≤c:=h.own.rd.form
theorem IsR.formU (h:IsR w p vn vu vr ms ks N): ∃A c,vu= .slice A N.length c∧N.length≤c:=h.ups.rd.form
theorem IsR.formR (h:IsR w p vn vu vr ms ks N): ∃A c,vr= .slice A N.length c∧N.length≤c:=h.rws.rd.form
theorem IsR.up (h:IsR w p vn vu vr ms ks N) (i:Nat) (hi:i<N.length): ∃b o c,vu= .slice (some ⟨b,o,none⟩) N.length c∧w.cell? ⟨b,o+i,none⟩=some (.int .i64 (N.getD i n0).up):=by
 obtain ⟨b,o,c,hv,_,hc⟩:=RdS.some h.ups.rd (by omega)
 exact ⟨b,o,c,hv,hc i _ (upC_get N i hi)⟩
theorem IsR.kd (h:IsR w p vn vu vr ms ks N) (i:Nat) (hi:i<N.length): ∃b o c A c',vr= .slice (some ⟨b,o,none⟩) N.length c∧w.cell? ⟨b,o+i,none⟩=some (.slice A (N.getD i n0).kids.length c')∧ks.getD i nV= .slice A (N.getD i n0).kids.length c'∧(N.getD i n0).kids.length≤c':=by
 obtain ⟨b,o,c,hv,_,hc⟩:=RdS.some h.rws.rd (by omega)
 obtain ⟨A,c',hk,hc'⟩:=(h.kid i hi).1.rd.form
 refine ⟨b,o,c,A,c',hv,?_,hk,hc'⟩
 rw [←hk]
 exact hc i _ (by rw [List.getD_eq_getElem?_getD,List.getElem?_eq_getElem (by rw [h.lk];exact hi)];rfl)
theorem IsR.nd (h:IsR w p vn vu vr ms ks N) (i:Nat) (hi:i<N.length): ∃b o c A,vn= .slice (some ⟨b,o,none⟩) N.length c∧NodeC w b (o+i*7) (hdOf (N.getD i n0)) A nV∧AttrS w A (N.getD i n0).attrs:=by
 obtain ⟨b,o,c,hv,_,hc⟩:=RdS.some h.own.rd (by omega)
 obtain ⟨⟨e1,e2,e3,e4,e5,e6⟩,e7⟩:=h.at_ i hi
 have hg:=encN_get ms i (by rw [h.lm];exact hi)
 refine ⟨b,o,c,(ms.getD i MN.z).attrs,hv,?_,e4⟩
 constructor
 ·have:=hc _ _ (hg 0 _ rfl);rw [←e1];exact this
 ·have:=hc _ _ (hg 1 _ rfl);rw [←e2,Nat.add_assoc];exact this
 ·have:=hc _ _ (hg 2 _ rfl);rw [←e3,Nat.add_assoc];exact this
 ·have:=hc _ _ (hg 3 _ rfl);rw [Nat.add_assoc];exact this
 ·have:=hc _ _ (hg 4 _ rfl);rw [←e5,Nat.add_assoc];exact this
 ·have:=hc _ _ (hg 5 _ rfl);rw [←e6,Nat.add_assoc];exact this
 ·have:=hc _ _ (hg 6 _ rfl);rw [←e7,Nat.add_assoc];exact this
end
structure WrR (w w':World) (p:Nat) (vn vu vr:Value) (ks:List Value) (vn' vu' vr':Value) (ks':List Value):Prop where
 chg:Chg w w' (fR p vn vu vr ks)
 ft: ∀k,fR p vn' vu' vr' ks' k→fR p vn vu vr ks k∨w.heap.size≤k
 k45: ∀b cells,Blk w b 45 cells→Blk w' b 45 cells
section
variable {w w' w1 w2 : World} {p : Nat} {vn vu vr vn1 vu1 vr1 vn2 vu2 vr2 : Value} {ks ks1 ks2 : List Value}
theorem WrR.refl (w:World) (p:Nat) (vn vu vr:Value) (ks:List Value):WrR w w p vn vu vr ks vn vu vr ks:=⟨Chg.refl _ _,fun _ h=> .inl h,fun _ _ h=>h⟩
theorem WrR.trans (h:WrR w w1 p vn vu vr ks vn1 vu1 vr1 ks1) (k:WrR w1 w2 p vn1 vu1 vr1 ks1 vn2 vu2 vr2 ks2):WrR w w2 p vn vu vr ks vn2 vu2 vr2 ks2:=by
 refine ⟨h.chg.trans k.chg (fun i hi hf=> ?_),fun i hf=> ?_,fun b c hb=>k.k45 b c (h.k45 b c hb)⟩
 ·rcases h.ft i hf with h1|h1
  ·exact h1
  ·omega
 ·rcases k.ft i hf with h1|h1
  ·exact h.ft i h1
  ·exact .inr (Nat.le_trans h.chg.size h1)
theorem WrR.of_no (hc:Chg w w' No) (p:Nat) (vn vu vr:Value) (ks:List Value):WrR w w' p vn vu vr ks vn vu vr ks:=⟨hc.mono (fun _ _ h=>h.elim),fun _ h=> .inl h,fun _ _ h=>h.no hc⟩
theorem WrR.pre (hc:Chg w w1 No) (h:WrR w1 w2 p vn vu vr ks vn1 vu1 vr1 ks1):WrR w w2 p vn vu vr ks vn1 vu1 vr1 ks1:=(WrR.of_no hc _ _ _ _ _).trans h
end
section
variable {w : World} {p : Nat} {vn vu vr : Value} {ms : List MN} {ks : List Value} {N : List ND}
theorem rIs_calls (h:IsR w p vn vu vr ms ks N) (n:Int):
  Calls Tryz.prog 55 [.pointer (some ⟨p,0,none⟩),.int .i64 n].toArray w fun e w'=>e= .returned (.bool (decide (isN N n)))∧w'=w:=by
 obtain ⟨A,c,rfl,hc⟩:=h.formN
 have hb:=h.blk
 refine zCz 16 Tryz.func55 ?_
 refine zz ?_
 by_cases h0:0≤n
 ·by_cases h1:n<N.length
  ·refine zz ?_
   exact zk_ret1 (.inr rfl) rfl rfl ⟨by simp [isN,h0,h1],rfl⟩
  ·refine zz ?_
   exact zk_ret1 (.inr rfl) rfl rfl ⟨by simp [isN,h0,h1],rfl⟩
 ·refine zz ?_
  exact zk_ret1 (.inr rfl) rfl rfl ⟨by simp [isN,h0],rfl⟩
theorem rElem_calls (h:IsR w p vn vu vr ms ks N) (n:Int):
  Calls Tryz.prog 113 [.pointer (some ⟨p,0,none⟩),.int .i64 n].toArray w fun e w'=>e= .returned (.bool (decide (isN N n∧(ndOf N n).kind=1)))∧w'=w:=by
 refine zCz 19 Tryz.func113 ?_
 refine zz ?_
 refine zCp rfl (rIs_calls h n) ?_
 by_cases h0:isN N n
 ·rw [decide_eq_true h0]
  obtain ⟨i,rfl⟩:=Int.eq_ofNat_of_zero_le h0.1
  have hi:i<N.length:=by have:=h0.2;omega
  obtain ⟨b,o,c,A,hv,hn,_⟩:=h.nd i hi
  subst hv
  have hb:=h.blk
  have hc0:=hn.c0
  refine zz ?_
  refine z_cmpB (r:=decide ((N.getD i n0).kind=1)) (want_L rfl) (by decide) rfl rfl rfl (by simp [hdOf]) ?_
  by_cases hk:(N.getD i n0).kind=1
  ·rw [decide_eq_true hk]
   refine zz ?_
   exact zk_ret1 (.inr rfl) rfl rfl ⟨by rw [decide_eq_true (show isN N i∧(ndOf N i).kind=1 from ⟨h0,hk⟩)],rfl⟩
  ·rw [decide_eq_false hk]
   refine zz ?_
   exact zk_ret1 (.inr rfl) rfl rfl ⟨by rw [decide_eq_false (show¬(isN N i∧(ndOf N i).kind=1) from fun hh=>hk hh.2)],rfl⟩
 ·rw [decide_eq_false h0]
  refine zz ?_
  exact zk_ret1 (.inr rfl) rfl rfl ⟨by rw [decide_eq_false (show¬(isN N n∧(ndOf N n).kind=1) from fun hh=>h0 hh.1)],rfl⟩
theorem rBelow_calls (h:IsR w p vn vu vr ms ks N) (hW:WF N) (n top:Nat) (hn:n<N.length) (ht:top<N.length):
  Calls Tryz.prog 116 [.pointer (some ⟨p,0,none⟩),.int .i64 n,.int .i64 top].toArray w fun e w'=> ∃q,e= .returned (.bool q)∧(q=true↔Anc N n top)∧w'=w:=by
 have hb:=h.blk
 obtain ⟨A,c,hvu,_⟩:=h.formU
 obtain ⟨d,hd⟩:=hW.rank
 refine zCz 19 Tryz.func116 ?_
 refine zz ?_
 refine zc_loop (ι:=Int) (fun k=> [(0,.pointer (some ⟨p,0,none⟩)),(1,.int .i64 k),(2,.int .i64 top)]) (fun _=>w) (fun k=>(k= -1∧ ¬Anc N n top)∨ ∃m:Nat,k=m∧m<N.length∧(Anc N m top↔Anc N n top)) (fun k=>if k<0 then 0 else d k.toNat+1) (n:Int) (.inr ⟨n,rfl,hn,Iff.rfl⟩) ?_ ?_ ?_
 ·rfl
 ·exact ⟨rfl,rfl,rfl,trivial⟩
 rintro k hk
 rcases hk with ⟨rfl,hna⟩|⟨m,rfl,hm,hiff⟩
 ·refine zz ?_
  exact zk_ret1 (.inr rfl) rfl rfl ⟨false,rfl,no_ hna,rfl⟩
 ·by_cases he:m=top
  ·refine zz ?_
   exact zk_ret1 (.inr rfl) rfl rfl ⟨true,rfl,iff_of_true rfl (hiff.1 (he▸Anc.refl m)),rfl⟩
  ·obtain ⟨b',o',c',hv',hp'⟩:=h.up m hm
   rw [hv'] at hb
   obtain ⟨hu1,hu2⟩:=hW.up m hm
   refine zz ?_
   refine zL1 rfl (cell_at hp' (by omega)) (zz ?_)
   by_cases hneg:(N.getD m n0).up= -1
   ·refine zk_loop _ (.inl ⟨hneg,fun ha=> ?_⟩) (by rw [hneg,if_pos (by decide),if_neg (by omega)];omega) rfl ⟨rfl,rfl,rfl,trivial⟩
    have:=hiff.2 ha
    cases this with
    |refl=>exact he rfl
    |step _ m' _ hu' _=>rw [hneg] at hu';omega
   ·obtain ⟨m',hm'⟩:=Int.eq_ofNat_of_zero_le (show 0≤(N.getD m n0).up by omega)
    have hdm:=hd m hm m' hm'
    refine zk_loop _ (.inr ⟨m',hm',by omega,?_⟩) (by rw [hm'];rw [if_neg (by omega),if_neg (by omega)];simp only [Int.toNat_natCast];omega) rfl ⟨rfl,rfl,rfl,trivial⟩
    rw [←hiff]
    refine ⟨fun ha=>Anc.step m m' top hm' ha,fun ha=> ?_⟩
    cases ha with
    |refl=>exact absurd rfl he
    |step _ m'' _ hu' ha'=>
     have:m''=m':=by rw [hm'] at hu';omega
     subst this;exact ha'
def plI (r:Option Nat):Int:=match r with|some i=>(i:Int)|none=> -1
theorem rPlace_calls (h:IsR w p vn vu vr ms ks N) (hW:WF N) (up:Nat) (hup:up<N.length) (ahead:Int) (hkl:(N.getD up n0).kids.length≤10000000):
  Calls Tryz.prog 114 [.pointer (some ⟨p,0,none⟩),.int .i64 up,.int .i64 ahead].toArray w fun e w'=>e= .returned (.int .i64 (plI (placeN (N.getD up n0).kids ahead)))∧w'=w:=by
 obtain ⟨b,o,c,A,c',hv,hp,hk,hc'⟩:=h.kd up hup
 have hK:=(h.kid up hup).1.rd
 have hb:=h.blk
 rw [hv] at hb
 rw [hk] at hK
 refine zCz 43 Tryz.func114 ?_
 by_cases h1:ahead= -1
 ·subst h1
  refine zz ?_
  refine zL1 rfl (cell_at hp (by omega)) (zz ?_)
  exact zk_ret1 (.inr rfl) rfl rfl ⟨by unfold placeN;rw [if_pos rfl];rfl,rfl⟩
 ·refine zz ?_
  refine zc_loop (ι:=Nat) (fun k=> [(0,.pointer (some ⟨p,0,none⟩)),(1,.int .i64 up),(2,.int .i64 ahead),(7,.int .i64 k)]) (fun _=>w) (fun k=>k≤(N.getD up n0).kids.length∧ ∀j,j<k→((N.getD up n0).kids.getD j 0:Int)≠ahead) (fun k=>(N.getD up n0).kids.length - k) 0 ⟨Nat.zero_le _,fun j hj=>absurd hj (Nat.not_lt_zero _)⟩ ?_ ?_ ?_
  ·rfl
  ·exact ⟨rfl,rfl,rfl,rfl,trivial⟩
  rintro k ⟨hkk,hno⟩
  by_cases hlt:k<(N.getD up n0).kids.length
  ·obtain ⟨bk,ok,ck,hvk,_,hck⟩:=RdS.some hK (by omega)
   cases hvk
   have hcell:=hck k _ (intC_get _ k hlt)
   refine zz ?_
   refine zL1 rfl (cell_at hp (by omega)) (zz ?_)
   refine zL1 rfl (cell_at hp (by omega)) (zz ?_)
   refine zL1 rfl (cell_at hcell (by omega)) ?_
   by_cases he:((N.getD up n0).kids.getD k 0:Int)=ahead
   ·refine zz ?_
    refine zk_ret1 (.inr rfl) rfl rfl ⟨?_,rfl⟩
    unfold placeN
    rw [if_neg h1,if_pos (by omega)]
    have:=findK_eq (hW.nodup up hup) hlt (a:=ahead.toNat) (by omega) _ hlt (Nat.le_refl _)
    rw [this];rfl
   ·refine zz ?_
    exact zk_loop (k+1) ⟨by omega,fun j hj=>by
     by_cases hjk:j=k
     ·subst hjk;exact he
     ·exact hno j (by omega)⟩ (by omega) rfl ⟨rfl,rfl,rfl,get_int rfl (by simp),trivial⟩
  ·refine zz ?_
   refine zL1 rfl (cell_at hp (by omega)) (zz ?_)
   refine zk_ret1 (.inr rfl) rfl rfl ⟨?_,rfl⟩
   unfold placeN
   rw [if_neg h1]
   split
   ·rename_i h0
    rw [findK_none (fun hm=> ?_) _ (Nat.le_refl _)]
    ·rfl
    ·obtain ⟨j,hj,hje⟩:=List.getElem_of_mem hm
     refine hno j (by omega) ?_
     rw [List.getD_eq_getElem?_getD,List.getElem?_eq_getElem hj]
     simp only [Option.getD_some,hje];omega
   ·rfl
theorem rNode_calls (h:IsR w p vn vu vr ms ks N) (n:Int):
  Calls Tryz.prog 45 [.pointer (some ⟨p,0,none⟩),.int .i64 n].toArray w fun e w'=> ∃va,e= .returned (.agg #[.int .i64 (nodeOf N n).kind,.int .i64 (nodeOf N n).space,.string (nodeOf N n).name,va,.string (bs (nodeOf N n).text),.int .i64 0,.slice none 0 0])∧AttrS w' va (nodeOf N n).attrs∧Chg w w' No:=by
 refine zCz 17 Tryz.func45 ?_
 refine zS (zR ?_)
 refine zAl (fun w1 b1 hN1=> ?_)
 have hb1:Blk w1 b1 80 [.int .i64 0,.int .i64 0,.string ⟨#[]⟩,.slice none 0 0,.string ⟨#[]⟩,.int .i64 0,.slice none 0 0]:=hN1.blk
 have h1:=h.no hN1.chg
 have hge:=hN1.ge (Chg.refl _ No)
 refine zz ?_
 refine zCp rfl (rIs_calls h1 n) ?_
 by_cases h0:isN N n
 ·rw [decide_eq_true h0]
  have hx:nodeOf N n=ndOf N n:=if_pos h0
  rw [hx]
  obtain ⟨i,rfl⟩:=Int.eq_ofNat_of_zero_le h0.1
  have hi:i<N.length:=by have:=h0.2;omega
  obtain ⟨b,o,c,A,hv,hn,hA⟩:=h1.nd i hi
  obtain ⟨A4,c4,rfl,_⟩:=hA.form
  subst hv
  have hb:=h1.blk
  refine zz ?_
  refine z_loadA (by rfl) (want_L rfl) (by decide) rfl (hn.agg (by omega)) ?_
  refine z_store (want_L rfl) rfl rfl rfl (by assumption) (by first|exact Nat.le_refl _|simp [Value.cells]) (by simp [Value.cells,Value.oneCell']) (fun w2 hU2=> ?_)
  have hb2:Blk w2 b1 80 [.int .i64 (N.getD i n0).kind,.int .i64 (N.getD i n0).space,.string (N.getD i n0).name,.slice A4 (N.getD i n0).attrs.length c4,.string (bs (N.getD i n0).text),.int .i64 0,.slice none 0 0]:=hU2.blk
  refine zN (zK (zE ?_))
  exact zk_retC (.inr rfl) rfl rfl hb2 rfl ⟨_,rfl,RdS.upd hA hU2 (by decide),hN1.chg.upd hU2 hge⟩
 ·rw [decide_eq_false h0]
  have hx:nodeOf N n=n0:=if_neg h0
  rw [hx]
  refine zz ?_
  refine z_buildE #[.int .i64 0,.int .i64 0,.string ⟨#[]⟩,.slice none 0 0,.string ⟨#[]⟩,.int .i64 0,.slice none 0 0] (want_L rfl) (by decide) rfl (by kernel_rfl) ?_
  refine z_store (want_L rfl) rfl rfl rfl (by assumption) (by first|exact Nat.le_refl _|simp [Value.cells]) (by simp [Value.cells,Value.oneCell']) (fun w2 hU2=> ?_)
  have hb2:Blk w2 b1 80 [.int .i64 0,.int .i64 0,.string ⟨#[]⟩,.slice none 0 0,.string ⟨#[]⟩,.int .i64 0,.slice none 0 0]:=hU2.blk
  refine zz ?_
  exact zk_retC (.inr rfl) rfl rfl hb2 rfl ⟨.slice none 0 0,rfl,AttrS.nil _,hN1.chg.upd hU2 hge⟩
end
end Go.Proofs.YtbcmiijollpgeaaGreat.D
namespace Go.Z
open Go
section
variable {P : Program} {n : Nat} {e : Env} {w : World} {Q : Exit → Act → World → Prop}
variable {ops : Array Oper} {K : Act → World → Prop} {i : Nat} {o : Oper} {d : Tmp} {v : Value} {a : Act}
end
section
variable {P : Program} {n : Nat} {e : Env} {w : World} {Q : Exit → Act → World → Prop} {ops : Array Oper} {rest : List Oper}
variable {d : Tmp} {ty : TypeId} {pos : String} {aft : Array Edge} {g : Option (Nat × Bool)} {ks : List Nat} {S : World → Prop}
end
open Go
section
variable {P : Program} {n : Nat} {e : Env} {w : World} {Q : Exit → Act → World → Prop} {ops : Array Oper} {K : Act → World → Prop} {i : Nat} {d : Tmp} {a : Act} {ty : TypeId} {pos : String} {aft : Array Edge} {g : Option (Nat × Bool)}
theorem wo_append {s x:Operand} {t el:TypeId} {sz k m m':Nat} {z v xv:Value} {xs news:List Value} [hu:Und P t (.slice el)] [hz:Inf P el sz k z] (hzs:z.cells.size=sz) (hsz:0<sz)
  (hi:ops[i]? =some ⟨some d,.call {callee:= .builtin .append,args:= #[s,x],argTypes:= #[t,t]},ty,pos,aft,g⟩) (hw:Want ops e g) (ha:Ok n e a)
  (hs:ev e s=some v) (hx:ev e x=some xv) (hown:Own w el sz v m xs) (hnews:RdS w el sz xv m' news) (h63:m+m'≤9223372036854775807) (hby:(m+m')*k≤140737488355328)
  (h: ∀v' w',Own w' el sz v' (m+m') (xs++news)→Chg w w' (fun k=>v.ownBlock=some k)→(v'.ownBlock=v.ownBlock∨ ∃k,v'.ownBlock=some k∧w.heap.size≤k)→K (a.put (some d) v') w'):wpOp P ops (NP Q) i K a w:=by
 obtain ⟨v',w',hr,h1,h2,h3⟩:=append_run (P:=P) (n:=n) (d:=d) (ty:=ty) (pos:=pos) (aft:=aft) (g:=g) (t:=t) hzs hsz hs hx hown hnews h63 hby
 exact wo_run hi hw rfl ha hr (h v' w' h1 h2 h3)
variable {w' : World} {R : Nat → Prop} {τ : Nat}
def OneT (w:World) (τ:Nat) (R:Nat→Prop):Prop:= ∀k,R k→ ∃cs,Blk w k τ cs
theorem Own.typ {t sz m:Nat} {v:Value} {cs:List Value} (h:Own w t sz v m cs) (hc:Chg w w' R) (hR:OneT w τ R) (ht:t≠τ):Own w' t sz v m cs:=h.chg hc (fun k hk hs=>by obtain ⟨cs',hb⟩:=hR k hs;exact h.ne hk hb ht rfl)
theorem RdS.typ {t sz m:Nat} {v:Value} {cs:List Value} (h:RdS w t sz v m cs) (hc:Chg w w' R) (hR:OneT w τ R) (ht:t≠τ):RdS w' t sz v m cs:=RdS.chg h hc (fun b cells hb hs=>by obtain ⟨cs',hb2⟩:=hR b hs;exact ht (hb.inj hb2).1)
theorem Blk.typ {b t:Nat} {cs:List Value} (h:Blk w b t cs) (hc:Chg w w' R) (hR:OneT w τ R) (ht:t≠τ):Blk w' b t cs:=h.chg hc (fun hs=>by obtain ⟨cs',hb2⟩:=hR b hs;exact ht (h.inj hb2).1)
end
end Go.Z
namespace Go.Proofs.YtbcmiijollpgeaaGreat.D
open Go Go.Z Go.Proofs
abbrev mOne:Value:= .int .i64 (-1)
def NX (t sz:Nat) (v0:Value) (W m:Nat) (cs:List Value) (v:Value) (w:World):Prop:=Own w t sz v m cs∧(v.ownBlock=v0.ownBlock∨ ∃k,v.ownBlock=some k∧W≤k)
structure LayA where
 p:Nat
 nb:Nat
 W:Nat
 n:Nat
 vn:Value
 vu:Value
 vr:Value
 cn:List Value
 cu:List Value
 cr:List Value
 mc:List Value
def GL (q:LayA):Nat→Value→World→Prop
 |0,v,_=>v=pv q.p
 |1,v,_=>v=pv q.p
 |2,v,_=>v=pv q.p
 |3,v,_=>v=pv q.p
 |4,v,_=>v=pv q.p
 |5,v,_=>v= .pointer (some ⟨q.p,0,none⟩)
 |6,v,_=>v=q.vn
 |7,v,_=>v= .agg q.mc.toArray
 |8,v,w=>RdS w 80 7 v 1 q.mc
 |9,v,w=>NX 80 7 q.vn q.W (q.n+1) (q.cn++q.mc) v w
 |10,v,_=>v=pv q.p
 |11,v,_=>v=pv q.p
 |12,v,_=>v= .pointer (some ⟨q.p,1,none⟩)
 |13,v,_=>v=q.vu
 |14,v,w=>RdS w 3 1 v 1 [mOne]
 |15,v,w=>NX 3 1 q.vu q.W (q.n+1) (q.cu++ [mOne]) v w
 |16,v,_=>v=pv q.p
 |17,v,_=>v=pv q.p
 |18,v,_=>v= .pointer (some ⟨q.p,2,none⟩)
 |19,v,_=>v=q.vr
 |20,v,w=>RdS w 22 1 v 1 [nV]
 |21,v,w=>NX 22 1 q.vr q.W (q.n+1) (q.cr++ [nV]) v w
 |22,v,_=>v=pv q.p
 |23,v,_=>v= .pointer (some ⟨q.p,0,none⟩)
 |25,v,_=>v=pv q.p
 |26,v,_=>v= .pointer (some ⟨q.p,1,none⟩)
 |28,v,_=>v=pv q.p
 |29,v,_=>v= .pointer (some ⟨q.p,2,none⟩)
 |_,_,_=>True
def killL:Nat→Nat
 |8=>9
 |14=>15
 |20=>21
 |_=>31
section
variable {q : LayA} {w w' : World} {R : Nat → Prop} {τ : Nat}
theorem NX.no {t sz W m:Nat} {v0 v:Value} {cs:List Value} (h:NX t sz v0 W m cs v w) (hc:Chg w w' No):NX t sz v0 W m cs v w':=⟨h.1.no hc,h.2⟩
theorem NX.typ {t sz W m:Nat} {v0 v:Value} {cs:List Value} (h:NX t sz v0 W m cs v w) (hc:Chg w w' R) (hR:OneT w τ R) (ht:t≠τ):NX t sz v0 W m cs v w':=⟨h.1.typ hc hR ht,h.2⟩
theorem GL.no (hc:Chg w w' No): ∀j v,GL q j v w→GL q j v w'
 |0,v,h=>h
 |1,v,h=>h
 |2,v,h=>h
 |3,v,h=>h
 |4,v,h=>h
 |5,v,h=>h
 |6,v,h=>h
 |7,v,h=>h
 |8,v,h=>RdS.no h hc
 |9,v,h=>NX.no h hc
 |10,v,h=>h
 |11,v,h=>h
 |12,v,h=>h
 |13,v,h=>h
 |14,v,h=>RdS.no h hc
 |15,v,h=>NX.no h hc
 |16,v,h=>h
 |17,v,h=>h
 |18,v,h=>h
 |19,v,h=>h
 |20,v,h=>RdS.no h hc
 |21,v,h=>NX.no h hc
 |22,v,h=>h
 |23,v,h=>h
 |24,v,h=>h
 |25,v,h=>h
 |26,v,h=>h
 |27,v,h=>h
 |28,v,h=>h
 |29,v,h=>h
 |30,v,h=>h
 |_+31,_,_=>trivial
theorem GL.typ (hc:Chg w w' R) (hR:OneT w τ R): ∀j v,(j=8∨j=9→80≠τ)→(j=14∨j=15→3≠τ)→(j=20∨j=21→22≠τ)→GL q j v w→GL q j v w'
 |0,v,_,_,_,h=>h
 |1,v,_,_,_,h=>h
 |2,v,_,_,_,h=>h
 |3,v,_,_,_,h=>h
 |4,v,_,_,_,h=>h
 |5,v,_,_,_,h=>h
 |6,v,_,_,_,h=>h
 |7,v,_,_,_,h=>h
 |8,v,h1,h2,h3,h=>RdS.typ h hc hR (h1 (.inl rfl))
 |9,v,h1,h2,h3,h=>NX.typ h hc hR (h1 (.inr rfl))
 |10,v,_,_,_,h=>h
 |11,v,_,_,_,h=>h
 |12,v,_,_,_,h=>h
 |13,v,_,_,_,h=>h
 |14,v,h1,h2,h3,h=>RdS.typ h hc hR (h2 (.inl rfl))
 |15,v,h1,h2,h3,h=>NX.typ h hc hR (h2 (.inr rfl))
 |16,v,_,_,_,h=>h
 |17,v,_,_,_,h=>h
 |18,v,_,_,_,h=>h
 |19,v,_,_,_,h=>h
 |20,v,h1,h2,h3,h=>RdS.typ h hc hR (h3 (.inl rfl))
 |21,v,h1,h2,h3,h=>NX.typ h hc hR (h3 (.inr rfl))
 |22,v,_,_,_,h=>h
 |23,v,_,_,_,h=>h
 |24,v,_,_,_,h=>h
 |25,v,_,_,_,h=>h
 |26,v,_,_,_,h=>h
 |27,v,_,_,_,h=>h
 |28,v,_,_,_,h=>h
 |29,v,_,_,_,h=>h
 |30,v,_,_,_,h=>h
 |_+31,_,_,_,_,_=>trivial
def SL (q:LayA) (k:Nat):Prop:=k=q.p∨q.vn.ownBlock=some k∨q.vu.ownBlock=some k∨q.vr.ownBlock=some k
structure TL (q:LayA) (w0:World) (b:Array Bool) (w:World):Prop where
 chg:Chg w0 w (SL q)
 nb:Blk w q.nb 80 q.mc
 o9:b.getD 9 false=false→Own w 80 7 q.vn q.n q.cn
 o15:b.getD 15 false=false→Own w 3 1 q.vu q.n q.cu
 o21:b.getD 21 false=false→Own w 22 1 q.vr q.n q.cr
 b0:b.getD 24 false=false→Blk w q.p 106 [q.vn,q.vu,q.vr]
 b1:b.getD 24 false=true→b.getD 27 false=false→ ∃v,Blk w q.p 106 [v,q.vu,q.vr]∧NX 80 7 q.vn q.W (q.n+1) (q.cn++q.mc) v w
 b2:b.getD 27 false=true→b.getD 30 false=false→ ∃v u,Blk w q.p 106 [v,u,q.vr]∧NX 80 7 q.vn q.W (q.n+1) (q.cn++q.mc) v w∧NX 3 1 q.vu q.W (q.n+1) (q.cu++ [mOne]) u w
 b3:b.getD 30 false=true→ ∃v u r,Blk w q.p 106 [v,u,r]∧NX 80 7 q.vn q.W (q.n+1) (q.cn++q.mc) v w∧NX 3 1 q.vu q.W (q.n+1) (q.cu++ [mOne]) u w∧NX 22 1 q.vr q.W (q.n+1) (q.cr++ [nV]) r w
variable {w0 : World} {b : Array Bool}
theorem TL.no (h:TL q w0 b w) (hc:Chg w w' No) {i:Nat} (h1:i≠9) (h2:i≠15) (h3:i≠21) (h4:i≠24) (h5:i≠27) (h6:i≠30):TL q w0 (b.setIfInBounds i true) w':=
 ⟨h.chg.no hc,h.nb.no hc,fun hb=>(h.o9 (by rwa [gd_ne h1] at hb)).no hc,fun hb=>(h.o15 (by rwa [gd_ne h2] at hb)).no hc,fun hb=>(h.o21 (by rwa [gd_ne h3] at hb)).no hc,fun hb=>(h.b0 (by rwa [gd_ne h4] at hb)).no hc,
  fun ha hb=>by
   obtain ⟨v,g1,g2⟩:=h.b1 (by rwa [gd_ne h4] at ha) (by rwa [gd_ne h5] at hb)
   exact ⟨v,g1.no hc,g2.no hc⟩,
  fun ha hb=>by
   obtain ⟨v,u,g1,g2,g3⟩:=h.b2 (by rwa [gd_ne h5] at ha) (by rwa [gd_ne h6] at hb)
   exact ⟨v,u,g1.no hc,g2.no hc,g3.no hc⟩,
  fun hb=>by
   obtain ⟨v,u,r,g1,g2,g3,g4⟩:=h.b3 (by rwa [gd_ne h6] at hb)
   exact ⟨v,u,r,g1.no hc,g2.no hc,g3.no hc,g4.no hc⟩⟩
theorem TL.grow (h:TL q w0 b w) (hc:Chg w w' R) (hR:OneT w τ R) (hsub: ∀k,R k→SL q k) (hnb: ¬R q.nb) {i:Nat} (hi:i<b.size) (h24:b.getD 24 false=false) (h27:b.getD 27 false=false) (h30:b.getD 30 false=false) (h4:i≠24) (h5:i≠27) (h6:i≠30)
  (k9:i=9∨(i≠9∧80≠τ)) (k15:i=15∨(i≠15∧3≠τ)) (k21:i=21∨(i≠21∧22≠τ)) (k63:106≠τ):TL q w0 (b.setIfInBounds i true) w':=by
 refine ⟨h.chg.trans hc (fun k _ hk=>hsub k hk),h.nb.chg hc hnb,fun hb=> ?_,fun hb=> ?_,fun hb=> ?_,fun hb=>(h.b0 h24).typ hc hR k63,fun ha=> ?_,fun ha=> ?_,fun ha=> ?_⟩
 ·rcases k9 with rfl|⟨k,k'⟩
  ·rw [gd_eq hi] at hb;cases hb
  ·rw [gd_ne k] at hb;exact (h.o9 hb).typ hc hR k'
 ·rcases k15 with rfl|⟨k,k'⟩
  ·rw [gd_eq hi] at hb;cases hb
  ·rw [gd_ne k] at hb;exact (h.o15 hb).typ hc hR k'
 ·rcases k21 with rfl|⟨k,k'⟩
  ·rw [gd_eq hi] at hb;cases hb
  ·rw [gd_ne k] at hb;exact (h.o21 hb).typ hc hR k'
 ·rw [gd_ne h4,h24] at ha;cases ha
 ·rw [gd_ne h5,h27] at ha;cases ha
 ·rw [gd_ne h6,h30] at ha;cases ha
end
theorem rLay_calls {w:World} {p:Nat} {vn vu vr va:Value} {ms:List MN} {ks:List Value} {N:List ND} (h:IsR w p vn vu vr ms ks N) (hl:N.length≤10000000) (x:ND) (hu:x.up= -1) (hk:x.kids= []) (hA:AttrS w va x.attrs):
  Calls Tryz.prog 83 [.pointer (some ⟨p,0,none⟩),.agg #[.int .i64 x.kind,.int .i64 x.space,.string x.name,va,.string (bs x.text),.int .i64 0,.slice none 0 0]].toArray w fun e w'=>e= .returned (.int .i64 N.length)∧ ∃vn' vu' vr' ms' ks',IsR w' p vn' vu' vr' ms' ks' (N++ [x])∧WrR w w' p vn vu vr ks vn' vu' vr' ks':=by
 obtain ⟨Aa,ca,rfl,_⟩:=hA.form
 have hvn:=h.formN
 have hvu:=h.formU
 have hvr:=h.formR
 refine zCz 39 Tryz.func83 ?_
 refine zS (zR ?_)
 refine zBx rfl (fun w1 nb hN1=> ?_)
 have hnb:Blk w1 nb 80 [.int .i64 x.kind,.int .i64 x.space,.string x.name,.slice Aa x.attrs.length ca,.string (bs x.text),.int .i64 0,.slice none 0 0]:=hN1.blk
 have h1:=h.no hN1.chg
 have hnbge:w.heap.size≤nb:=hN1.ge (Chg.refl _ No)
 have hnn: ∀k,fR p vn vu vr ks k→k≠nb:=fun k hk he=>by have:=h.lt k hk;omega
 obtain ⟨q,hq⟩: ∃q:LayA,q=⟨p,nb,w1.heap.size,N.length,vn,vu,vr,encN ms,upC N,ks,[.int .i64 x.kind,.int .i64 x.space,.string x.name,.slice Aa x.attrs.length ca,.string (bs x.text),.int .i64 0,.slice none 0 0]⟩:=⟨_,rfl⟩
 have hT0: ∀w',Chg w1 w' No→TL q w1 (Array.replicate 31 false) w':=fun w' hc=>by
  subst hq
  exact ⟨hc.mono (fun _ _ h=>h.elim),hnb.no hc,fun _=>h1.own.no hc,fun _=>h1.ups.no hc,fun _=>h1.rws.no hc,fun _=>h1.blk.no hc,(fun ha=>by rw [gd_rep] at ha;cases ha),(fun ha=>by rw [gd_rep] at ha;cases ha),(fun ha=>by rw [gd_rep] at ha;cases ha)⟩
 have hqp:q.p=p:=by rw [hq]
 have hqW:q.W=w1.heap.size:=by rw [hq]
 have hqn:q.n=N.length:=by rw [hq]
 have hqvn:q.vn=vn:=by rw [hq]
 have hqvu:q.vu=vu:=by rw [hq]
 have hqvr:q.vr=vr:=by rw [hq]
 have hqnb:q.nb=nb:=by rw [hq]
 have hqmc:q.mc= [.int .i64 x.kind,.int .i64 x.space,.string x.name,.slice Aa x.attrs.length ca,.string (bs x.text),.int .i64 0,.slice none 0 0]:=by rw [hq]
 have hmcl:q.mc.length=7:=by rw [hqmc];rfl
 have hmc1: ∀u∈q.mc,u.oneCell'=true:=by rw [hqmc];simp [Value.oneCell']
 refine zz ?_
 refine zc_drawS (GL q) killL (TL q w1) [(0,.pointer (some ⟨p,0,none⟩)),(3,.pointer (some ⟨nb,0,none⟩))] (by rfl) (by kernel_rfl) (by kernel_rfl) ⟨rfl,rfl,trivial⟩ (fun w' hc _=>hT0 w' hc) ?_ ?_
 ·intro i' hi' b a y hbsz hbi hcl hwt hL
  obtain ⟨hok',hTL,hd⟩:=hL
  have hb31:b.size=31:=hbsz
  have hi31:i'<31:=hi'
  have g: ∀j,waits _ i' j=true→(killL j=i'∨31≤killL j)→ ∀dj,dstOf _ j=some dj→ ∃v,a.tmps[dj]? =some v∧GL q j v y:=fun j hw hk dj hdj=>by
   obtain ⟨v,h1,h2⟩:=hd j hw dj hdj
   exact ⟨v,h1,h2 (fun hh=>hh hk)⟩
  have cl: ∀k,waits _ k i'=true→b.getD k false=false:=fun k hw=>by
   rcases hk':b.getD k false with _|_
   ·rfl
   ·have:=hcl k i' hk' hw;rw [hbi] at this;cases this
  have hsize:w1.heap.size≤y.heap.size:=hTL.chg.size
  match i',hi31 with
  |0,_=>
   exact wo_pure rfl hok' rfl ⟨gS (d0:=5) rfl (show _=pv q.p by rw [hqp];rfl),gT (d0:=5) rfl,hTL.no (Chg.refl _ No) (by decide) (by decide) (by decide) (by decide) (by decide) (by decide),fun _ _ _ _ h=>h⟩
  |1,_=>
   exact wo_pure rfl hok' rfl ⟨gS (d0:=6) rfl (show _=pv q.p by rw [hqp];rfl),gT (d0:=6) rfl,hTL.no (Chg.refl _ No) (by decide) (by decide) (by decide) (by decide) (by decide) (by decide),fun _ _ _ _ h=>h⟩
  |2,_=>
   exact wo_pure rfl hok' rfl ⟨gS (d0:=7) rfl (show _=pv q.p by rw [hqp];rfl),gT (d0:=7) rfl,hTL.no (Chg.refl _ No) (by decide) (by decide) (by decide) (by decide) (by decide) (by decide),fun _ _ _ _ h=>h⟩
  |3,_=>
   exact wo_pure rfl hok' rfl ⟨gS (d0:=8) rfl (show _=pv q.p by rw [hqp];rfl),gT (d0:=8) rfl,hTL.no (Chg.refl _ No) (by decide) (by decide) (by decide) (by decide) (by decide) (by decide),fun _ _ _ _ h=>h⟩
  |4,_=>
   obtain ⟨v,hv,e1⟩:=g 3 (by kernel_rfl) (by decide) _ rfl
   have e2:v= .pointer (some ⟨p,0,none⟩):=by rw [show v=pv q.p from e1,hqp];rfl
   subst e2
   exact wo_pure rfl (hok'.cons hv) rfl ⟨gS (d0:=9) rfl (show _=pv q.p by rw [hqp];rfl),gT (d0:=9) rfl,hTL.no (Chg.refl _ No) (by decide) (by decide) (by decide) (by decide) (by decide) (by decide),fun _ _ _ _ h=>h⟩
  |5,_=>
   obtain ⟨v,hv,e1⟩:=g 4 (by kernel_rfl) (by decide) _ rfl
   have e2:v= .pointer (some ⟨p,0,none⟩):=by rw [show v=pv q.p from e1,hqp];rfl
   subst e2
   exact wo_run rfl (want_L rfl) rfl (hok'.cons hv) (r_fa rfl) ⟨gS (d0:=10) rfl (show _=Value.pointer (some ⟨q.p,0,none⟩) by rw [hqp]),gT (d0:=10) rfl,hTL.no (Chg.refl _ No) (by decide) (by decide) (by decide) (by decide) (by decide) (by decide),fun _ _ _ _ h=>h⟩
  |6,_=>
   obtain ⟨v,hv,e1⟩:=g 5 (by kernel_rfl) (by decide) _ rfl
   have e2:v= .pointer (some ⟨p,0,none⟩):=by rw [show v=Value.pointer (some ⟨q.p,0,none⟩) from e1,hqp]
   subst e2
   have hB:=hTL.b0 (cl 24 (by kernel_rfl))
   rw [hqp] at hB
   exact wo_run rfl (want_L rfl) rfl (hok'.cons hv) (r_loadB rfl hB (by rfl)) ⟨gS (d0:=11) rfl (show _=q.vn from rfl),gT (d0:=11) rfl,hTL.no (Chg.refl _ No) (by decide) (by decide) (by decide) (by decide) (by decide) (by decide),fun _ _ _ _ h=>h⟩
  |7,_=>
   have hB:=hTL.nb
   rw [hqnb] at hB
   exact wo_run rfl (want_L rfl) rfl hok' (r_loadAB rfl hB hmcl) ⟨gS (d0:=12) rfl (show _=Value.agg q.mc.toArray from rfl),gT (d0:=12) rfl,hTL.no (Chg.refl _ No) (by decide) (by decide) (by decide) (by decide) (by decide) (by decide),fun _ _ _ _ h=>h⟩
  |8,_=>
   obtain ⟨v,hv,e1⟩:=g 7 (by kernel_rfl) (by decide) _ rfl
   have e2:v= .agg q.mc.toArray:=e1
   subst e2
   have hN:=New.mk' y 80 q.mc
   exact wo_run rfl (want_L rfl) rfl (hok'.cons hv) (run_bs1 rfl (by rfl) (by simp [Value.cells,hmcl]) (by decide) (by decide)) ⟨gS (d0:=13) rfl (show RdS _ 80 7 _ 1 q.mc from RdS.new (New.mk' y 80 q.mc) (by rw [hmcl]) hmc1),gT (d0:=13) rfl,hTL.no hN.chg (by decide) (by decide) (by decide) (by decide) (by decide) (by decide),fun j u _ _ h=>GL.no hN.chg j u h⟩
  |9,_=>
   obtain ⟨v1,hv1,e1⟩:=g 6 (by kernel_rfl) (by decide) _ rfl
   obtain ⟨v2,hv2,e2⟩:=g 8 (by kernel_rfl) (by decide) _ rfl
   have e1:v1=q.vn:=e1
   subst e1
   have hO:=hTL.o9 hbi
   have hR:OneT y 80 (fun k=>q.vn.ownBlock=some k):=fun k hk=>hO.blk hk
   refine wo_append (by rfl) (by decide) rfl (want_L rfl) ((hok'.cons hv1).cons hv2) rfl rfl hO e2 (by omega) (by omega) (fun v' y' hO' hC' hr'=> ?_)
   exact ⟨gS (d0:=14) rfl (show NX _ _ _ _ _ _ _ _ from ⟨hO',hr'.imp id (fun ⟨k,h3,h4⟩=>⟨k,h3,by omega⟩)⟩),gT (d0:=14) rfl,hTL.grow hC' hR (fun k hk=> .inr (.inl hk)) (fun he=>hnn nb (.inr (.inl (by rw [←hqvn,he,hqnb]))) rfl) (by omega) (cl 24 (by kernel_rfl)) (cl 27 (by kernel_rfl)) (cl 30 (by kernel_rfl)) (by decide) (by decide) (by decide) (.inl rfl) (.inr ⟨by decide,by decide⟩) (.inr ⟨by decide,by decide⟩) (by decide),fun j u hj hkj h=>GL.typ hC' hR j u (by rintro (rfl|rfl);exact absurd rfl hkj;exact absurd rfl hj) (by intro _;decide) (by intro _;decide) h⟩
  |10,_=>
   exact wo_pure rfl hok' rfl ⟨gS (d0:=15) rfl (show _=pv q.p by rw [hqp];rfl),gT (d0:=15) rfl,hTL.no (Chg.refl _ No) (by decide) (by decide) (by decide) (by decide) (by decide) (by decide),fun _ _ _ _ h=>h⟩
  |11,_=>
   obtain ⟨v,hv,e1⟩:=g 10 (by kernel_rfl) (by decide) _ rfl
   have e2:v= .pointer (some ⟨p,0,none⟩):=by rw [show v=pv q.p from e1,hqp];rfl
   subst e2
   exact wo_pure rfl (hok'.cons hv) rfl ⟨gS (d0:=16) rfl (show _=pv q.p by rw [hqp];rfl),gT (d0:=16) rfl,hTL.no (Chg.refl _ No) (by decide) (by decide) (by decide) (by decide) (by decide) (by decide),fun _ _ _ _ h=>h⟩
  |12,_=>
   obtain ⟨v,hv,e1⟩:=g 11 (by kernel_rfl) (by decide) _ rfl
   have e2:v= .pointer (some ⟨p,0,none⟩):=by rw [show v=pv q.p from e1,hqp];rfl
   subst e2
   exact wo_run rfl (want_L rfl) rfl (hok'.cons hv) (r_fa rfl) ⟨gS (d0:=17) rfl (show _=Value.pointer (some ⟨q.p,1,none⟩) by rw [hqp]),gT (d0:=17) rfl,hTL.no (Chg.refl _ No) (by decide) (by decide) (by decide) (by decide) (by decide) (by decide),fun _ _ _ _ h=>h⟩
  |13,_=>
   obtain ⟨v,hv,e1⟩:=g 12 (by kernel_rfl) (by decide) _ rfl
   have e2:v= .pointer (some ⟨p,1,none⟩):=by rw [show v=Value.pointer (some ⟨q.p,1,none⟩) from e1,hqp]
   subst e2
   have hB:=hTL.b0 (cl 24 (by kernel_rfl))
   rw [hqp] at hB
   exact wo_run rfl (want_L rfl) rfl (hok'.cons hv) (r_loadB rfl hB (by rfl)) ⟨gS (d0:=18) rfl (show _=q.vu from rfl),gT (d0:=18) rfl,hTL.no (Chg.refl _ No) (by decide) (by decide) (by decide) (by decide) (by decide) (by decide),fun _ _ _ _ h=>h⟩
  |14,_=>
   have hN:=New.mk' y 3 [mOne]
   exact wo_run rfl (want_L rfl) rfl hok' (run_bs1 rfl (by rfl) (by rfl) (by decide) (by decide)) ⟨gS (d0:=19) rfl (show RdS _ 3 1 _ 1 [mOne] from RdS.new (New.mk' y 3 [mOne]) rfl (by simp [Value.oneCell'])),gT (d0:=19) rfl,hTL.no hN.chg (by decide) (by decide) (by decide) (by decide) (by decide) (by decide),fun j u _ _ h=>GL.no hN.chg j u h⟩
  |15,_=>
   obtain ⟨v1,hv1,e1⟩:=g 13 (by kernel_rfl) (by decide) _ rfl
   obtain ⟨v2,hv2,e2⟩:=g 14 (by kernel_rfl) (by decide) _ rfl
   have e1:v1=q.vu:=e1
   subst e1
   have hO:=hTL.o15 hbi
   have hR:OneT y 3 (fun k=>q.vu.ownBlock=some k):=fun k hk=>hO.blk hk
   refine wo_append (by rfl) (by decide) rfl (want_L rfl) ((hok'.cons hv1).cons hv2) rfl rfl hO e2 (by omega) (by omega) (fun v' y' hO' hC' hr'=> ?_)
   exact ⟨gS (d0:=20) rfl (show NX _ _ _ _ _ _ _ _ from ⟨hO',hr'.imp id (fun ⟨k,h3,h4⟩=>⟨k,h3,by omega⟩)⟩),gT (d0:=20) rfl,hTL.grow hC' hR (fun k hk=> .inr (.inr (.inl hk))) (fun he=>hnn nb (.inr (.inr (.inl (by rw [←hqvu,he,hqnb])))) rfl) (by omega) (cl 24 (by kernel_rfl)) (cl 27 (by kernel_rfl)) (cl 30 (by kernel_rfl)) (by decide) (by decide) (by decide) (.inr ⟨by decide,by decide⟩) (.inl rfl) (.inr ⟨by decide,by decide⟩) (by decide),fun j u hj hkj h=>GL.typ hC' hR j u (by intro _;decide) (by rintro (rfl|rfl);exact absurd rfl hkj;exact absurd rfl hj) (by intro _;decide) h⟩
  |16,_=>
   exact wo_pure rfl hok' rfl ⟨gS (d0:=21) rfl (show _=pv q.p by rw [hqp];rfl),gT (d0:=21) rfl,hTL.no (Chg.refl _ No) (by decide) (by decide) (by decide) (by decide) (by decide) (by decide),fun _ _ _ _ h=>h⟩
  |17,_=>
   obtain ⟨v,hv,e1⟩:=g 16 (by kernel_rfl) (by decide) _ rfl
   have e2:v= .pointer (some ⟨p,0,none⟩):=by rw [show v=pv q.p from e1,hqp];rfl
   subst e2
   exact wo_pure rfl (hok'.cons hv) rfl ⟨gS (d0:=22) rfl (show _=pv q.p by rw [hqp];rfl),gT (d0:=22) rfl,hTL.no (Chg.refl _ No) (by decide) (by decide) (by decide) (by decide) (by decide) (by decide),fun _ _ _ _ h=>h⟩
  |18,_=>
   obtain ⟨v,hv,e1⟩:=g 17 (by kernel_rfl) (by decide) _ rfl
   have e2:v= .pointer (some ⟨p,0,none⟩):=by rw [show v=pv q.p from e1,hqp];rfl
   subst e2
   exact wo_run rfl (want_L rfl) rfl (hok'.cons hv) (r_fa rfl) ⟨gS (d0:=23) rfl (show _=Value.pointer (some ⟨q.p,2,none⟩) by rw [hqp]),gT (d0:=23) rfl,hTL.no (Chg.refl _ No) (by decide) (by decide) (by decide) (by decide) (by decide) (by decide),fun _ _ _ _ h=>h⟩
  |19,_=>
   obtain ⟨v,hv,e1⟩:=g 18 (by kernel_rfl) (by decide) _ rfl
   have e2:v= .pointer (some ⟨p,2,none⟩):=by rw [show v=Value.pointer (some ⟨q.p,2,none⟩) from e1,hqp]
   subst e2
   have hB:=hTL.b0 (cl 24 (by kernel_rfl))
   rw [hqp] at hB
   exact wo_run rfl (want_L rfl) rfl (hok'.cons hv) (r_loadB rfl hB (by rfl)) ⟨gS (d0:=24) rfl (show _=q.vr from rfl),gT (d0:=24) rfl,hTL.no (Chg.refl _ No) (by decide) (by decide) (by decide) (by decide) (by decide) (by decide),fun _ _ _ _ h=>h⟩
  |20,_=>
   have hN:=New.mk' y 22 [nV]
   exact wo_run rfl (want_L rfl) rfl hok' (run_bs1 rfl (by rfl) (by rfl) (by decide) (by decide)) ⟨gS (d0:=25) rfl (show RdS _ 22 1 _ 1 [nV] from RdS.new (New.mk' y 22 [nV]) rfl (by simp [Value.oneCell'])),gT (d0:=25) rfl,hTL.no hN.chg (by decide) (by decide) (by decide) (by decide) (by decide) (by decide),fun j u _ _ h=>GL.no hN.chg j u h⟩
  |21,_=>
   obtain ⟨v1,hv1,e1⟩:=g 19 (by kernel_rfl) (by decide) _ rfl
   obtain ⟨v2,hv2,e2⟩:=g 20 (by kernel_rfl) (by decide) _ rfl
   have e1:v1=q.vr:=e1
   subst e1
   have hO:=hTL.o21 hbi
   have hR:OneT y 22 (fun k=>q.vr.ownBlock=some k):=fun k hk=>hO.blk hk
   refine wo_append (by rfl) (by decide) rfl (want_L rfl) ((hok'.cons hv1).cons hv2) rfl rfl hO e2 (by omega) (by omega) (fun v' y' hO' hC' hr'=> ?_)
   exact ⟨gS (d0:=26) rfl (show NX _ _ _ _ _ _ _ _ from ⟨hO',hr'.imp id (fun ⟨k,h3,h4⟩=>⟨k,h3,by omega⟩)⟩),gT (d0:=26) rfl,hTL.grow hC' hR (fun k hk=> .inr (.inr (.inr hk))) (fun he=>hnn nb (.inr (.inr (.inr (.inl (by rw [←hqvr,he,hqnb]))))) rfl) (by omega) (cl 24 (by kernel_rfl)) (cl 27 (by kernel_rfl)) (cl 30 (by kernel_rfl)) (by decide) (by decide) (by decide) (.inr ⟨by decide,by decide⟩) (.inr ⟨by decide,by decide⟩) (.inl rfl) (by decide),fun j u hj hkj h=>GL.typ hC' hR j u (by intro _;decide) (by intro _;decide) (by rintro (rfl|rfl);exact absurd rfl hkj;exact absurd rfl hj) h⟩
  |22,_=>
   obtain ⟨v,hv,e1⟩:=g 0 (by kernel_rfl) (by decide) _ rfl
   have e2:v= .pointer (some ⟨p,0,none⟩):=by rw [show v=pv q.p from e1,hqp];rfl
   subst e2
   exact wo_pure rfl (hok'.cons hv) rfl ⟨gS (d0:=27) rfl (show _=pv q.p by rw [hqp];rfl),gT (d0:=27) rfl,hTL.no (Chg.refl _ No) (by decide) (by decide) (by decide) (by decide) (by decide) (by decide),fun _ _ _ _ h=>h⟩
  |23,_=>
   obtain ⟨v,hv,e1⟩:=g 22 (by kernel_rfl) (by decide) _ rfl
   have e2:v= .pointer (some ⟨p,0,none⟩):=by rw [show v=pv q.p from e1,hqp];rfl
   subst e2
   exact wo_run rfl (want_L rfl) rfl (hok'.cons hv) (r_fa rfl) ⟨gS (d0:=28) rfl (show _=Value.pointer (some ⟨q.p,0,none⟩) by rw [hqp]),gT (d0:=28) rfl,hTL.no (Chg.refl _ No) (by decide) (by decide) (by decide) (by decide) (by decide) (by decide),fun _ _ _ _ h=>h⟩
  |24,_=>
   obtain ⟨v,hv,e1⟩:=g 23 (by kernel_rfl) (by decide) _ rfl
   have e2:v= .pointer (some ⟨p,0,none⟩):=by rw [show v=Value.pointer (some ⟨q.p,0,none⟩) from e1,hqp]
   subst e2
   obtain ⟨u,hu',e3⟩:=g 9 (by kernel_rfl) (by decide) _ rfl
   have e3:NX 80 7 q.vn q.W (q.n+1) (q.cn++q.mc) u y:=e3
   obtain ⟨Au,cu',hus,_⟩:=e3.1.rd.form
   subst hus
   have hB:=hTL.b0 hbi
   rw [hqp] at hB
   refine wo_store rfl (want_L rfl) ((hok'.cons hv).cons hu') rfl rfl (by rfl) hB (by simp [Value.cells]) (by simp [Value.cells,Value.oneCell']) (fun y' hU=> ?_)
   have hB':Blk y' q.p 106 [.slice Au (q.n+1) cu',q.vu,q.vr]:=by rw [hqp];exact hU.blk
   have hR:OneT y 106 (fun k=>k=p):=fun k hk=>⟨_,hk▸hB⟩
   have hC':Chg y y' (fun k=>k=p):=hU.chg
   exact ⟨gN rfl,fun _=>rfl,⟨hTL.chg.trans hC' (fun k _ hk=> .inl (by rw [hqp];exact hk)),hTL.nb.typ hC' hR (by decide),(fun hb=>(hTL.o9 (by rwa [gd_ne (by decide)] at hb)).typ hC' hR (by decide)),(fun hb=>(hTL.o15 (by rwa [gd_ne (by decide)] at hb)).typ hC' hR (by decide)),(fun hb=>(hTL.o21 (by rwa [gd_ne (by decide)] at hb)).typ hC' hR (by decide)),(fun hb=>by rw [gd_eq (by omega)] at hb;cases hb),(fun _ _=>⟨_,hB',e3.typ hC' hR (by decide)⟩),(fun ha=>by rw [gd_ne (by decide),cl 27 (by kernel_rfl)] at ha;cases ha),(fun ha=>by rw [gd_ne (by decide),cl 30 (by kernel_rfl)] at ha;cases ha)⟩,fun j u hj hkj h=>GL.typ hC' hR j u (fun _=>by decide) (fun _=>by decide) (fun _=>by decide) h⟩
  |25,_=>
   obtain ⟨v,hv,e1⟩:=g 1 (by kernel_rfl) (by decide) _ rfl
   have e2:v= .pointer (some ⟨p,0,none⟩):=by rw [show v=pv q.p from e1,hqp];rfl
   subst e2
   exact wo_pure rfl (hok'.cons hv) rfl ⟨gS (d0:=29) rfl (show _=pv q.p by rw [hqp];rfl),gT (d0:=29) rfl,hTL.no (Chg.refl _ No) (by decide) (by decide) (by decide) (by decide) (by decide) (by decide),fun _ _ _ _ h=>h⟩
  |26,_=>
   obtain ⟨v,hv,e1⟩:=g 25 (by kernel_rfl) (by decide) _ rfl
   have e2:v= .pointer (some ⟨p,0,none⟩):=by rw [show v=pv q.p from e1,hqp];rfl
   subst e2
   exact wo_run rfl (want_L rfl) rfl (hok'.cons hv) (r_fa rfl) ⟨gS (d0:=30) rfl (show _=Value.pointer (some ⟨q.p,1,none⟩) by rw [hqp]),gT (d0:=30) rfl,hTL.no (Chg.refl _ No) (by decide) (by decide) (by decide) (by decide) (by decide) (by decide),fun _ _ _ _ h=>h⟩
  |27,_=>
   obtain ⟨v,hv,e1⟩:=g 26 (by kernel_rfl) (by decide) _ rfl
   have e2:v= .pointer (some ⟨p,1,none⟩):=by rw [show v=Value.pointer (some ⟨q.p,1,none⟩) from e1,hqp]
   subst e2
   obtain ⟨u,hu',e3⟩:=g 15 (by kernel_rfl) (by decide) _ rfl
   have e3:NX 3 1 q.vu q.W (q.n+1) (q.cu++ [mOne]) u y:=e3
   obtain ⟨Au,cu',hus,_⟩:=e3.1.rd.form
   subst hus
   obtain ⟨x1,hB,n1⟩:=hTL.b1 (hwt 24 (by kernel_rfl)) hbi
   rw [hqp] at hB
   refine wo_store rfl (want_L rfl) ((hok'.cons hv).cons hu') rfl rfl (by rfl) hB (by simp [Value.cells]) (by simp [Value.cells,Value.oneCell']) (fun y' hU=> ?_)
   have hB':Blk y' q.p 106 [x1,.slice Au (q.n+1) cu',q.vr]:=by rw [hqp];exact hU.blk
   have hR:OneT y 106 (fun k=>k=p):=fun k hk=>⟨_,hk▸hB⟩
   have hC':Chg y y' (fun k=>k=p):=hU.chg
   exact ⟨gN rfl,fun _=>rfl,⟨hTL.chg.trans hC' (fun k _ hk=> .inl (by rw [hqp];exact hk)),hTL.nb.typ hC' hR (by decide),(fun hb=>(hTL.o9 (by rwa [gd_ne (by decide)] at hb)).typ hC' hR (by decide)),(fun hb=>(hTL.o15 (by rwa [gd_ne (by decide)] at hb)).typ hC' hR (by decide)),(fun hb=>(hTL.o21 (by rwa [gd_ne (by decide)] at hb)).typ hC' hR (by decide)),(fun hb=>by rw [gd_ne (by decide),hwt 24 (by kernel_rfl)] at hb;cases hb),(fun _ hb=>by rw [gd_eq (by omega)] at hb;cases hb),(fun _ _=>⟨_,_,hB',n1.typ hC' hR (by decide),e3.typ hC' hR (by decide)⟩),(fun ha=>by rw [gd_ne (by decide),cl 30 (by kernel_rfl)] at ha;cases ha)⟩,fun j u hj hkj h=>GL.typ hC' hR j u (fun _=>by decide) (fun _=>by decide) (fun _=>by decide) h⟩
  |28,_=>
   obtain ⟨v,hv,e1⟩:=g 2 (by kernel_rfl) (by decide) _ rfl
   have e2:v= .pointer (some ⟨p,0,none⟩):=by rw [show v=pv q.p from e1,hqp];rfl
   subst e2
   exact wo_pure rfl (hok'.cons hv) rfl ⟨gS (d0:=31) rfl (show _=pv q.p by rw [hqp];rfl),gT (d0:=31) rfl,hTL.no (Chg.refl _ No) (by decide) (by decide) (by decide) (by decide) (by decide) (by decide),fun _ _ _ _ h=>h⟩
  |29,_=>
   obtain ⟨v,hv,e1⟩:=g 28 (by kernel_rfl) (by decide) _ rfl
   have e2:v= .pointer (some ⟨p,0,none⟩):=by rw [show v=pv q.p from e1,hqp];rfl
   subst e2
   exact wo_run rfl (want_L rfl) rfl (hok'.cons hv) (r_fa rfl) ⟨gS (d0:=32) rfl (show _=Value.pointer (some ⟨q.p,2,none⟩) by rw [hqp]),gT (d0:=32) rfl,hTL.no (Chg.refl _ No) (by decide) (by decide) (by decide) (by decide) (by decide) (by decide),fun _ _ _ _ h=>h⟩
  |30,_=>
   obtain ⟨v,hv,e1⟩:=g 29 (by kernel_rfl) (by decide) _ rfl
   have e2:v= .pointer (some ⟨p,2,none⟩):=by rw [show v=Value.pointer (some ⟨q.p,2,none⟩) from e1,hqp]
   subst e2
   obtain ⟨u,hu',e3⟩:=g 21 (by kernel_rfl) (by decide) _ rfl
   have e3:NX 22 1 q.vr q.W (q.n+1) (q.cr++ [nV]) u y:=e3
   obtain ⟨Au,cu',hus,_⟩:=e3.1.rd.form
   subst hus
   obtain ⟨x1,x2,hB,n1,n2⟩:=hTL.b2 (hwt 27 (by kernel_rfl)) hbi
   rw [hqp] at hB
   refine wo_store rfl (want_L rfl) ((hok'.cons hv).cons hu') rfl rfl (by rfl) hB (by simp [Value.cells]) (by simp [Value.cells,Value.oneCell']) (fun y' hU=> ?_)
   have hB':Blk y' q.p 106 [x1,x2,.slice Au (q.n+1) cu']:=by rw [hqp];exact hU.blk
   have hR:OneT y 106 (fun k=>k=p):=fun k hk=>⟨_,hk▸hB⟩
   have hC':Chg y y' (fun k=>k=p):=hU.chg
   exact ⟨gN rfl,fun _=>rfl,⟨hTL.chg.trans hC' (fun k _ hk=> .inl (by rw [hqp];exact hk)),hTL.nb.typ hC' hR (by decide),(fun hb=>(hTL.o9 (by rwa [gd_ne (by decide)] at hb)).typ hC' hR (by decide)),(fun hb=>(hTL.o15 (by rwa [gd_ne (by decide)] at hb)).typ hC' hR (by decide)),(fun hb=>(hTL.o21 (by rwa [gd_ne (by decide)] at hb)).typ hC' hR (by decide)),(fun hb=>by rw [gd_ne (by decide),hwt 24 (by kernel_rfl)] at hb;cases hb),(fun _ hb=>by rw [gd_ne (by decide),hwt 27 (by kernel_rfl)] at hb;cases hb),(fun _ hb=>by rw [gd_eq (by omega)] at hb;cases hb),(fun _=>⟨_,_,_,hB',n1.typ hC' hR (by decide),n2.typ hC' hR (by decide),e3.typ hC' hR (by decide)⟩)⟩,fun j u hj hkj h=>GL.typ hC' hR j u (fun _=>by decide) (fun _=>by decide) (fun _=>by decide) h⟩
  |k+31,hk=>omega
 ·intro b a y hall hL
  obtain ⟨hok',hTL,_⟩:=hL
  obtain ⟨v',u',r',hB,n1,n2,n3⟩:=hTL.b3 (hall 30 (by decide))
  have hC:=hTL.chg
  subst hq
  dsimp only [SL] at hB n1 n2 n3 hC
  refine np_zk (e:= [(0,.pointer (some ⟨p,0,none⟩)),(3,.pointer (some ⟨nb,0,none⟩))]) ?_ hok'
  obtain ⟨An,cn,hv',hcn⟩:=n1.1.rd.form
  subst hv'
  refine zz ?_
  have hS: ∀k,SL ⟨p,nb,w1.heap.size,N.length,vn,vu,vr,encN ms,upC N,ks,[.int .i64 x.kind,.int .i64 x.space,.string x.name,.slice Aa x.attrs.length ca,.string (bs x.text),.int .i64 0,.slice none 0 0]⟩ k→fR p vn vu vr ks k:=fun k hk=>by
   rcases hk with hk|hk|hk|hk
   ·exact .inl hk
   ·exact .inr (.inl hk)
   ·exact .inr (.inr (.inl hk))
   ·exact .inr (.inr (.inr (.inl hk)))
  have h45: ∀b cells,Blk w1 b 45 cells→ ¬(b=p∨vn.ownBlock=some b∨vu.ownBlock=some b∨vr.ownBlock=some b):=fun b cells hb hk=>h1.no45 b cells hb (hS b hk)
  have hsz1:=hN1.chg.size
  have hA':AttrS y (.slice Aa x.attrs.length ca) x.attrs:=RdS.chg (hA.no hN1.chg) hC h45
  refine zk_ret1 (.inr rfl) rfl rfl ⟨by congr 2;omega,_,u',r',ms++ [⟨x.kind,x.space,x.name,.slice Aa x.attrs.length ca,bs x.text,0,nV⟩],ks++ [nV],⟨hB,?_,?_,?_,by simp [h.lm],by simp [h.lk],?_,?_⟩,?_,?_,?_⟩
  ·rw [List.length_append,encN_app];exact n1.1
  ·rw [List.length_append,upC_app]
   have:upC [x]= [mOne]:=by simp [upC,hu]
   rw [this];exact n2.1
  ·rw [List.length_append];exact n3.1
  ·intro i hi
   rw [getD_snoc,getD_snoc,h.lm]
   by_cases hin:i=N.length
   ·rw [if_pos hin,if_pos hin]
    exact ⟨⟨rfl,rfl,rfl,hA',rfl,rfl⟩,rfl⟩
   ·rw [if_neg hin,if_neg hin]
    have hi':i<N.length:=by simp at hi;omega
    exact ⟨(h1.at_ i hi').1.chg' hC h45,(h1.at_ i hi').2⟩
  ·intro i hi
   rw [getD_snoc,getD_snoc,h.lk]
   by_cases hin:i=N.length
   ·rw [if_pos hin,if_pos hin,hk]
    exact ⟨Own.nil,fun k hk=>by cases hk⟩
   ·rw [if_neg hin,if_neg hin]
    have hi':i<N.length:=by simp at hi;omega
    obtain ⟨hK,hK2⟩:=h1.kid i hi'
    refine ⟨hK.chg hC (fun k hk hs=> ?_),fun k hk he=> ?_⟩
    ·rcases hs with hs|hs|hs|hs
     ·exact hK.ne hk h1.blk (by decide) hs
     ·obtain ⟨cs,hb⟩:=h1.own.blk hs;exact hK.ne hk hb (by decide) rfl
     ·exact hK2 k hk hs
     ·obtain ⟨cs,hb⟩:=h1.rws.blk hs;exact hK.ne hk hb (by decide) rfl
    ·rcases n2.2 with e1|⟨k',e1,e2⟩
     ·rw [e1] at he;exact hK2 k hk he
     ·rw [he] at e1;cases e1;have:=hK.lt hk;omega
  ·exact (hN1.chg.mono (fun _ _ h=>h.elim)).trans hC (fun k _ hk=>hS k hk)
  ·rintro k (hk'|hk'|hk'|hk'|⟨i,hi,hk'⟩)
   ·exact .inl (.inl hk')
   ·rcases n1.2 with e1|⟨k',e1,e2⟩
    ·exact .inl (.inr (.inl (e1▸hk')))
    ·rw [hk'] at e1;cases e1;exact .inr (by omega)
   ·rcases n2.2 with e1|⟨k',e1,e2⟩
    ·exact .inl (.inr (.inr (.inl (e1▸hk'))))
    ·rw [hk'] at e1;cases e1;exact .inr (by omega)
   ·rcases n3.2 with e1|⟨k',e1,e2⟩
    ·exact .inl (.inr (.inr (.inr (.inl (e1▸hk')))))
    ·rw [hk'] at e1;cases e1;exact .inr (by omega)
   ·rw [getD_snoc] at hk'
    by_cases hin:i=ks.length
    ·rw [if_pos hin] at hk';cases hk'
    ·rw [if_neg hin] at hk'
     exact .inl (.inr (.inr (.inr (.inr ⟨i,by simp at hi;omega,hk'⟩))))
  ·exact fun b cells hb=>(hb.no hN1.chg).chg hC (h45 b cells (hb.no hN1.chg))
theorem lay_one (v:Value): ∀(l:List Value) (i:Nat),i<l.length→Z.lay l i [v]=l.set i v
 | [],i,h=>by simp at h
 |a::r,0,h=>by simp [Z.lay]
 |a::r,i+1,h=>by
  have:=lay_one v r i (by simpa using h)
  simp only [Z.lay,List.length_cons,List.length_nil] at this ⊢
  simp only [List.set_cons_succ,←this]
  simp
section
variable {w w' : World} {p : Nat} {vn vu vr : Value} {ms : List MN} {ks : List Value} {N : List ND}
theorem own_b {t sz m:Nat} {v:Value} {cs:List Value} (h:Own w t sz v m cs) (hm:0<m): ∃b c,v= .slice (some ⟨b,0,none⟩) m c∧m≤c:=by
 rcases h.cases.2 with ⟨_,h0,_⟩|⟨b,cap,junk,hv,hc,_⟩
 ·omega
 ·exact ⟨b,cap,hv,hc⟩
theorem IsR.row (h:IsR w p vn vu vr ms ks N) (i:Nat) (hi:i<N.length): ∃bo co cells,vr= .slice (some ⟨bo,0,none⟩) N.length co∧N.length≤co∧Blk w bo 22 cells∧i+1≤cells.length∧
  ∀(v:Value) (l:List Nat),Own w 3 1 v l.length (intC l)→(∀k,v.ownBlock=some k→vu.ownBlock≠some k)→ ∀w',Upd w w' bo 22 (Z.lay cells i [v])→
   IsR w' p vn vu vr ms (ks.set i v) (N.set i {N.getD i n0 with kids:=l})∧Chg w w' (fR p vn vu vr ks)∧(∀k,fR p vn vu vr (ks.set i v) k→fR p vn vu vr ks k∨v.ownBlock=some k)∧ ∀b cells,Blk w b 45 cells→Blk w' b 45 cells:=by
 obtain ⟨bo,co,hv,hco⟩:=own_b h.rws (by omega)
 have hO:=h.rws
 rw [hv] at hO
 have hlk:=h.lk
 refine ⟨bo,co,?_⟩
 obtain ⟨c0,hc0⟩:=hO.blk (k:=bo) rfl
 have hx:=fun (v:Value) (hv1:v.oneCell'=true)=>hO.lay (o:=i) (vs:= [v]) (by simp;omega) (by simpa using hv1)
 obtain ⟨cells,hB,hfit,_,_⟩:=hx (.int .i64 0) rfl
 refine ⟨cells,hv,hco,hB,by simpa using hfit,fun v l hvl hsep w' hU=> ?_⟩
 have hv1:v.oneCell'=true:=by obtain ⟨A,c,hvf,_⟩:=hvl.rd.form;rw [hvf];rfl
 obtain ⟨cells',hB',_,_,hnew⟩:=hx v hv1
 obtain rfl:=(hB.inj hB').2
 have hO':=hnew w' hU
 rw [lay_one v ks i (by omega)] at hO'
 have hC:=hU.chg
 have hvr:vr.ownBlock=some bo:=by rw [hv];rfl
 have hR:OneT w 22 (fun k=>k=bo):=fun k hk=>⟨_,hk▸hB⟩
 refine ⟨⟨h.blk.typ hC hR (by decide),?_,?_,?_,by simp [h.lm],by simp [h.lk],fun j hj=> ?_,fun j hj=> ?_⟩,hC.mono (fun k _ hk=> .inr (.inr (.inr (.inl (by rw [hvr,hk]))))),?_,fun b cells hb=>hb.typ hC hR (by decide)⟩
 ·rw [List.length_set];exact h.own.typ hC hR (by decide)
 ·rw [List.length_set]
  have e:upC (N.set i {N.getD i n0 with kids:=l})=upC N:=by
   apply List.ext_getElem?
   intro j
   simp only [upC,List.getElem?_map,List.getElem?_set]
   by_cases hij:i=j
   ·subst hij
    simp [hi,List.getD_eq_getElem?_getD]
   ·rw [if_neg hij]
  rw [e];exact h.ups.typ hC hR (by decide)
 ·rw [List.length_set,hv];exact hO'
 ·rw [List.length_set] at hj
  rw [getD_set _ _ _ _ _ hi]
  have hy:RN w' (ms.getD j MN.z) (N.getD j n0):=⟨(h.at_ j hj).1.chg' hC (fun b cells hb hk=>by obtain ⟨cs,hb2⟩:=hR b hk;exact absurd (hb.inj hb2).1 (by decide)),(h.at_ j hj).2⟩
  by_cases hji:j=i
  ·rw [if_pos hji];subst hji;exact hy
  ·rw [if_neg hji];exact hy
 ·rw [List.length_set] at hj
  rw [getD_set _ _ _ _ _ hi,getD_set _ _ _ _ _ (by omega)]
  by_cases hji:j=i
  ·rw [if_pos hji,if_pos hji]
   exact ⟨hvl.typ hC hR (by decide),hsep⟩
  ·rw [if_neg hji,if_neg hji]
   exact ⟨(h.kid j hj).1.typ hC hR (by decide),(h.kid j hj).2⟩
 ·rintro k (hk|hk|hk|hk|⟨j,hj,hk⟩)
  ·exact .inl (.inl hk)
  ·exact .inl (.inr (.inl hk))
  ·exact .inl (.inr (.inr (.inl hk)))
  ·exact .inl (.inr (.inr (.inr (.inl hk))))
  ·rw [List.length_set] at hj
   rw [getD_set _ _ _ _ _ (by omega)] at hk
   by_cases hji:j=i
   ·rw [if_pos hji] at hk;exact .inr hk
   ·rw [if_neg hji] at hk;exact .inl (.inr (.inr (.inr (.inr ⟨j,hj,hk⟩))))
theorem IsR.upset (h:IsR w p vn vu vr ms ks N) (i:Nat) (hi:i<N.length): ∃bo co cells,vu= .slice (some ⟨bo,0,none⟩) N.length co∧N.length≤co∧Blk w bo 3 cells∧i+1≤cells.length∧
  ∀(z:Int) (w':World),Upd w w' bo 3 (Z.lay cells i [.int .i64 z])→
   IsR w' p vn vu vr ms ks (N.set i {N.getD i n0 with up:=z})∧Chg w w' (fR p vn vu vr ks)∧ ∀b cells,Blk w b 45 cells→Blk w' b 45 cells:=by
 obtain ⟨bo,co,hv,hco⟩:=own_b h.ups (by omega)
 have hO:=h.ups
 rw [hv] at hO
 refine ⟨bo,co,?_⟩
 have hx:=fun (z:Int)=>hO.lay (o:=i) (vs:= [.int .i64 z]) (by simp [upC];omega) (by simp [Value.oneCell'])
 obtain ⟨cells,hB,hfit,_,_⟩:=hx 0
 refine ⟨cells,hv,hco,hB,by simpa using hfit,fun z w' hU=> ?_⟩
 obtain ⟨cells',hB',_,_,hnew⟩:=hx z
 obtain rfl:=(hB.inj hB').2
 have hO':=hnew w' hU
 rw [lay_one _ (upC N) i (by simp [upC];omega)] at hO'
 have hC:=hU.chg
 have hvu:vu.ownBlock=some bo:=by rw [hv];rfl
 have hR:OneT w 3 (fun k=>k=bo):=fun k hk=>⟨_,hk▸hB⟩
 refine ⟨⟨h.blk.typ hC hR (by decide),?_,?_,?_,by simp [h.lm],by simp [h.lk],fun j hj=> ?_,fun j hj=> ?_⟩,hC.mono (fun k _ hk=> .inr (.inr (.inl (by rw [hvu,hk])))),fun b cells hb=>hb.typ hC hR (by decide)⟩
 ·rw [List.length_set];exact h.own.typ hC hR (by decide)
 ·rw [List.length_set,hv]
  have e:upC (N.set i {N.getD i n0 with up:=z})=(upC N).set i (.int .i64 z):=by simp [upC,List.map_set]
  rw [e];exact hO'
 ·rw [List.length_set];exact h.rws.typ hC hR (by decide)
 ·rw [List.length_set] at hj
  rw [getD_set _ _ _ _ _ hi]
  have hy:RN w' (ms.getD j MN.z) (N.getD j n0):=⟨(h.at_ j hj).1.chg' hC (fun b cells hb hk=>by obtain ⟨cs,hb2⟩:=hR b hk;exact absurd (hb.inj hb2).1 (by decide)),(h.at_ j hj).2⟩
  by_cases hji:j=i
  ·rw [if_pos hji];subst hji;exact hy
  ·rw [if_neg hji];exact hy
 ·rw [List.length_set] at hj
  rw [getD_set _ _ _ _ _ hi]
  have hy:Own w' 3 1 (ks.getD j nV) (N.getD j n0).kids.length (intC (N.getD j n0).kids)∧ ∀k,(ks.getD j nV).ownBlock=some k→vu.ownBlock≠some k:=⟨(h.kid j hj).1.chg hC (fun k hk he=>(h.kid j hj).2 k hk (by rw [hvu,he])),(h.kid j hj).2⟩
  by_cases hji:j=i
  ·rw [if_pos hji];subst hji;exact hy
  ·rw [if_neg hji];exact hy
theorem encN_text (s:ByteArray): ∀(ms:List MN) (i:Nat),i<ms.length→Z.lay (encN ms) (i*7+4) [.string s]=encN (ms.set i {ms.getD i MN.z with text:=s})
 | [],i,h=>by simp at h
 |a::r,0,h=>by simp [Z.lay,encN,MN.cells]
 |a::r,i+1,h=>by
  have ih:=encN_text s r i (by simpa using h)
  have e:(i+1)*7+4=i*7+4+1+1+1+1+1+1+1:=by omega
  simp only [Z.lay,encN,List.set_cons_succ,MN.cells,List.length_cons,List.length_nil,List.getD_cons_succ] at ih ⊢
  rw [←ih,e]
  simp [Nat.add_assoc]
theorem IsR.txset (h:IsR w p vn vu vr ms ks N) (i:Nat) (hi:i<N.length): ∃bo co cells,vn= .slice (some ⟨bo,0,none⟩) N.length co∧N.length≤co∧Blk w bo 80 cells∧i*7+5≤cells.length∧
  ∀(s:List UInt8) (w':World),Upd w w' bo 80 (Z.lay cells (i*7+4) [.string (bs s)])→
   ∃ms',IsR w' p vn vu vr ms' ks (N.set i {N.getD i n0 with text:=s})∧Chg w w' (fR p vn vu vr ks)∧ ∀b cells,Blk w b 45 cells→Blk w' b 45 cells:=by
 obtain ⟨bo,co,hv,hco⟩:=own_b h.own (by omega)
 have hO:=h.own
 rw [hv] at hO
 have hlm:=h.lm
 have hel:=encN_len ms
 refine ⟨bo,co,?_⟩
 have hx:=fun (s:List UInt8)=>hO.lay (o:=i*7+4) (vs:= [.string (bs s)]) (by rw [hel];simp;omega) (by simp [Value.oneCell'])
 obtain ⟨cells,hB,hfit,_,_⟩:=hx []
 refine ⟨cells,hv,hco,hB,by simpa using hfit,fun s w' hU=> ?_⟩
 obtain ⟨cells',hB',_,_,hnew⟩:=hx s
 obtain rfl:=(hB.inj hB').2
 have hO':=hnew w' hU
 rw [encN_text (bs s) ms i (by omega)] at hO'
 have hC:=hU.chg
 have hvn:vn.ownBlock=some bo:=by rw [hv];rfl
 have hR:OneT w 80 (fun k=>k=bo):=fun k hk=>⟨_,hk▸hB⟩
 refine ⟨ms.set i {ms.getD i MN.z with text:=bs s},⟨h.blk.typ hC hR (by decide),?_,?_,?_,by simp [h.lm],by simp [h.lk],fun j hj=> ?_,fun j hj=> ?_⟩,hC.mono (fun k _ hk=> .inr (.inl (by rw [hvn,hk]))),fun b cells hb=>hb.typ hC hR (by decide)⟩
 ·rw [List.length_set,hv];exact hO'
 ·rw [List.length_set]
  have e:upC (N.set i {N.getD i n0 with text:=s})=upC N:=by
   apply List.ext_getElem?
   intro j
   simp only [upC,List.getElem?_map,List.getElem?_set]
   by_cases hij:i=j
   ·subst hij
    simp [hi,List.getD_eq_getElem?_getD]
   ·rw [if_neg hij]
  rw [e];exact h.ups.typ hC hR (by decide)
 ·rw [List.length_set];exact h.rws.typ hC hR (by decide)
 ·rw [List.length_set] at hj
  rw [getD_set _ _ _ _ _ hi,getD_set _ _ _ _ _ (by omega)]
  have hy:RN w' (ms.getD j MN.z) (N.getD j n0):=⟨(h.at_ j hj).1.chg' hC (fun b cells hb hk=>by obtain ⟨cs,hb2⟩:=hR b hk;exact absurd (hb.inj hb2).1 (by decide)),(h.at_ j hj).2⟩
  by_cases hji:j=i
  ·rw [if_pos hji,if_pos hji];subst hji
   obtain ⟨⟨g1,g2,g3,g4,g5,g6⟩,g7⟩:=hy
   exact ⟨⟨g1,g2,g3,g4,rfl,g6⟩,g7⟩
  ·rw [if_neg hji,if_neg hji];exact hy
 ·rw [List.length_set] at hj
  rw [getD_set _ _ _ _ _ hi]
  have hy:Own w' 3 1 (ks.getD j nV) (N.getD j n0).kids.length (intC (N.getD j n0).kids)∧ ∀k,(ks.getD j nV).ownBlock=some k→vu.ownBlock≠some k:=⟨(h.kid j hj).1.typ hC hR (by decide),(h.kid j hj).2⟩
  by_cases hji:j=i
  ·rw [if_pos hji];subst hji;exact hy
  ·rw [if_neg hji];exact hy
end
end Go.Proofs.YtbcmiijollpgeaaGreat.D
