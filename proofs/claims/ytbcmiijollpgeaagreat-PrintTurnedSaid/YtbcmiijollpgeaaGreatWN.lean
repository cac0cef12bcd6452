import Derived.Test.YtbcmiijollpgeaaGreatWM
set_option maxHeartbeats 32000000
set_option maxRecDepth 100000
set_option linter.unusedVariables false
set_option linter.unusedSimpArgs false
namespace Go.Proofs.YtbcmiijollpgeaaGreat.D
open Go Go.Z Go.Proofs
def blocksN:List (List UInt8):= [[98,108,111,99,107,113,117,111,116,101],[104,50],[104,51],[104,52],[104,53],[104,54],[104,114],[111,108],[112],[112,114,101],[116,97,98,108,101],[117,108]]
def inlineN:List (List UInt8):= [[97],[98,114],[99,111,100,101],[101,109],[105,109,103],[115,116,114,111,110,103],[115,117,98],[115,117,112]]
def lineN:List (List UInt8):= [[104,50],[104,51],[104,52],[104,53],[104,54],[112],[112,114,101]]
def inlN:List (List UInt8):= [[97],[99,111,100,101],[101,109],[115,116,114,111,110,103],[115,117,98],[115,117,112]]
def liW:List UInt8:= [108,105]
def olW:List UInt8:= [111,108]
def ulW:List UInt8:= [117,108]
def quoteW:List UInt8:= [98,108,111,99,107,113,117,111,116,101]
def textH (v:List UInt8):Hd:=hdOf (textN v)
def bareN:T.AT→NT
 | .nil=> .nil
 | .cons x k r=>if x.name= [] then .cons (textH x.text) .nil (bareN r) else .cons (elemH x.name x.attrs) (bareN k) (bareN r)
def toksF (nl:Bool):T.AT→List Tok
 | .nil=> []
 | .cons x k r=>if x.name= [] then .text (if nl=true then 10::x.text else x.text)::toksF false r
  else if x.name∈leafN then .start x.name x.attrs::toksF false r
  else .start x.name x.attrs::(toksF (decide (x.name=preW) && k.feeds) k++ .fin x.name::toksF false r)
section
variable {nl : Bool} {x : T.Hd} {k r : T.AT}
theorem bare_text (h:x.name= []):bareN (.cons x k r)= .cons (textH x.text) .nil (bareN r):=by rw [bareN,if_pos h]
theorem bare_elem (h:x.name≠ []):bareN (.cons x k r)= .cons (elemH x.name x.attrs) (bareN k) (bareN r):=by rw [bareN,if_neg h]
theorem toks_text (h:x.name= []):toksF nl (.cons x k r)= .text (if nl=true then 10::x.text else x.text)::toksF false r:=by rw [toksF,if_pos h]
theorem toks_leaf (h:x.name≠ []) (h2:x.name∈leafN):toksF nl (.cons x k r)= .start x.name x.attrs::toksF false r:=by rw [toksF,if_neg h,if_pos h2]
theorem toks_open (h:x.name≠ []) (h2:x.name∉leafN):toksF nl (.cons x k r)= .start x.name x.attrs::(toksF (decide (x.name=preW) && k.feeds) k++ .fin x.name::toksF false r):=by rw [toksF,if_neg h,if_neg h2]
end
def SA:T.AT→Prop
 | .nil=>True
 | .cons x k r=>(if x.name= [] then x.text≠ []∧0∉x.text∧x.text.length≤1000000 else T.AtOk x.attrs∧T.kidsA x.name k∧SA k)∧SA r
inductive Cx where
 |blocks
 |line
 |list
 |table
 |tbody
 |tr
structure Path0 (fr:List FE):Prop where
 nop: ∀g∈fr,g.nm≠ [112]
 nof: ∀nm∈fmtN,nm∉upN fr
def CtxOk:Cx→List FE→T.AT→Prop
 | .blocks,fr,a=>Path0 fr∧plainG fr∧topN fr∉B.wd (B.setW 5)∧T.ofA blocksN a
 | .line,fr,a=>plainG fr∧T.lineA a∧ ∀nm∈fmtN,T.hasA nm a→nm∉upN fr
 | .list,fr,a=>Path0 fr∧plainG fr∧2≤fr.length∧(topN fr=olW∨topN fr=ulW)∧T.ofA [liW] a
 | .table,fr,a=>Path0 fr∧2≤fr.length∧topN fr=tableW∧T.ofA [tbodyW] a
 | .tbody,fr,a=>Path0 fr∧2≤fr.length∧topN fr=tbodyW∧T.ofA [trW] a
 | .tr,fr,a=>Path0 fr∧2≤fr.length∧topN fr=trW∧T.ofA cellN a
section
variable {f f' g : FE} {fr : List FE} {a : T.AT}
theorem lastN_same (l:List (List UInt8)) (h:f'.nm=f.nm):lastN l (f'::fr)=lastN l (f::fr):=by
 cases fr with
 |nil=>rfl
 |cons g fr=>unfold lastN;rw [h]
theorem plainG_same (h:f'.nm=f.nm) (hp:plainG (f::fr)):plainG (f'::fr):=by unfold plainG at*;rw [lastN_same _ h];exact hp
theorem upN_same (h:f'.nm=f.nm):upN (f'::fr)=upN (f::fr):=by unfold upN;rw [h]
theorem Path0.same (h:f'.nm=f.nm) (hp:Path0 (f::fr)):Path0 (f'::fr):=by
 refine ⟨fun g hg=> ?_,fun nm hn=>by rw [upN_same h];exact hp.nof nm hn⟩
 rcases List.mem_cons.1 hg with rfl|hg
 ·rw [h];exact hp.nop f List.mem_cons_self
 ·exact hp.nop g (List.mem_cons_of_mem _ hg)
theorem CtxOk.tail {cx:Cx} {x:T.Hd} {k r:T.AT} (h:CtxOk cx (f::fr) (.cons x k r)) (he:f'.nm=f.nm):CtxOk cx (f'::fr) r:=by
 cases cx with
 |blocks=>
  obtain ⟨h1,h2,h3,h4⟩:=h
  exact ⟨h1.same he,plainG_same he h2,by show f'.nm∉_;rw [he];exact h3,h4.2⟩
 |line=>
  obtain ⟨h1,h2,h3⟩:=h
  refine ⟨plainG_same he h1,h2.2.2,fun nm hn hh=> ?_⟩
  rw [upN_same he]
  exact h3 nm hn (.inr (.inr hh))
 |list=>
  obtain ⟨h1,h2,h3,h4,h5⟩:=h
  exact ⟨h1.same he,plainG_same he h2,h3,by show f'.nm=_∨f'.nm=_;rw [he];exact h4,h5.2⟩
 |table=>
  obtain ⟨h1,h3,h4,h5⟩:=h
  exact ⟨h1.same he,h3,by show f'.nm=_;rw [he];exact h4,h5.2⟩
 |tbody=>
  obtain ⟨h1,h3,h4,h5⟩:=h
  exact ⟨h1.same he,h3,by show f'.nm=_;rw [he];exact h4,h5.2⟩
 |tr=>
  obtain ⟨h1,h3,h4,h5⟩:=h
  exact ⟨h1.same he,h3,by show f'.nm=_;rw [he];exact h4,h5.2⟩
theorem plainG_in (h:g.nm∉grN) (hp:plainG (f::fr)):plainG (g::f::fr):=by
 have:lastN grN (g::f::fr)=lastN grN (f::fr):=if_neg h
 unfold plainG at*
 rw [this];exact hp
theorem plainG_cell (h:g.nm∈cellN):plainG (g::f::fr):=by
 have:lastN grN (g::f::fr)=g.nm:=if_pos ((show∀a∈cellN,a∈grN by decide) _ h)
 unfold plainG
 rw [this];exact .inr h
theorem Path0.in_ (h:g.nm∉fmtN) (hp:g.nm≠ [112]) (h0:Path0 (f::fr)):Path0 (g::f::fr):=by
 refine ⟨fun g' hg=> ?_,fun nm hn hh=> ?_⟩
 ·rcases List.mem_cons.1 hg with rfl|hg
  ·exact hp
  ·exact h0.nop g' hg
 ·unfold upN at hh
  split at hh
  ·cases hh
  ·rcases List.mem_cons.1 hh with rfl|hh
   ·exact h hn
   ·exact h0.nof nm hn hh
theorem upN_line (h:g.nm∉fmtN) (h0: ∀nm∈fmtN,nm∉upN (f::fr)): ∀nm∈fmtN,nm∉upN (g::f::fr):=fun nm hn hh=>by
 unfold upN at hh
 split at hh
 ·cases hh
 ·rcases List.mem_cons.1 hh with rfl|hh
  ·exact h hn
  ·exact h0 nm hn hh
theorem CtxOk.start {cx:Cx} {x:T.Hd} {k r:T.AT} (h:CtxOk cx (f::fr) (.cons x k r)) (hn:x.name≠ []) (hk:T.kidsA x.name k) (al:List T.At):
  T.NmOk x.name∧((x.name∈startN∧plainG (f::fr)∧CondS x.name (f::fr))∨(2≤(f::fr).length∧((x.name=tbodyW∧topN (f::fr)=tableW)∨(x.name=trW∧topN (f::fr)=tbodyW)∨(x.name∈cellN∧topN (f::fr)=trW))))∧
  (x.name∉leafN→(∃cx',CtxOk cx' (⟨x.name,al,.nil⟩::f::fr) k)∧((x.name∈endN∧plainG (⟨x.name,al,.nil⟩::f::fr))∨x.name=tableW∨x.name=tbodyW∨x.name=trW∨x.name∈cellN)):=by
 obtain ⟨k1,k2,k3,k4,k5,k6,k7,k8,k9⟩:=hk
 have nmok: ∀a∈(startN++ [tbodyW,trW]++cellN:List (List UInt8)),T.NmOk a:=by
  have: ∀a∈(startN++ [tbodyW,trW]++cellN:List (List UInt8)),a≠ []∧(∀c∈a,T.lowC c)∧97≤(a.getD 0 0).toNat∧(a.getD 0 0).toNat≤122:=by decide+kernel
  intro a ha
  obtain ⟨h1,h2,h3⟩:=this a ha
  refine ⟨h1,h2,?_⟩
  cases a with
  |nil=>exact absurd rfl h1
  |cons c q=>exact ⟨c,q,rfl,h3⟩
 cases cx with
 |blocks=>
  obtain ⟨h1,h2,h3,h4,_⟩:=h
  have hs:x.name∈startN:=(show∀a∈blocksN,a∈startN by decide) _ h4
  refine ⟨nmok _ (by simp [hs]),.inl ⟨hs,h2,⟨fun _=>h1.nop,fun _ f' hf=> ?_,fun he=> ?_,fun hf=> ?_⟩⟩,fun hl=> ?_⟩
  ·cases hf;exact h3
  ·exact absurd h4 (by rw [he];decide)
  ·exact absurd hf ((show∀a∈blocksN,a∉fmtN by decide) _ h4)
  ·by_cases hln:x.name∈lineN
   ·have hg:x.name∉grN:=(show∀a∈lineN,a∉grN by decide) _ hln
    have hfm:x.name∉fmtN:=(show∀a∈lineN,a∉fmtN by decide) _ hln
    exact ⟨⟨.line,plainG_in hg h2,k1 hln,fun nm hnm _=>upN_line (g:=⟨x.name,al,.nil⟩) hfm h1.nof nm hnm⟩,.inl ⟨(show∀a∈lineN,a∈endN by decide) _ hln,plainG_in hg h2⟩⟩
   ·have hb:x.name=olW∨x.name=ulW∨x.name=quoteW∨x.name=tableW:=by
     have: ∀a∈blocksN,a∉lineN→a∉leafN→a=olW∨a=ulW∨a=quoteW∨a=tableW:=by decide
     exact this _ h4 hln hl
    rcases hb with e|e|e|e
    ·have e0:Path0 (⟨x.name,al,.nil⟩::f::fr):=Path0.in_ (g:=⟨x.name,al,.nil⟩) (by show x.name∉_;rw [e];decide) (by show x.name≠_;rw [e];decide) h1
     have e1:plainG (⟨x.name,al,.nil⟩::f::fr):=plainG_in (by show x.name∉_;rw [e];decide) h2
     exact ⟨⟨.list,e0,e1,by simp,.inl e,k4 (.inl e)⟩,.inl ⟨by rw [e];decide,e1⟩⟩
    ·have e0:Path0 (⟨x.name,al,.nil⟩::f::fr):=Path0.in_ (g:=⟨x.name,al,.nil⟩) (by show x.name∉_;rw [e];decide) (by show x.name≠_;rw [e];decide) h1
     have e1:plainG (⟨x.name,al,.nil⟩::f::fr):=plainG_in (by show x.name∉_;rw [e];decide) h2
     exact ⟨⟨.list,e0,e1,by simp,.inr e,k4 (.inr e)⟩,.inl ⟨by rw [e];decide,e1⟩⟩
    ·have e0:Path0 (⟨x.name,al,.nil⟩::f::fr):=Path0.in_ (g:=⟨x.name,al,.nil⟩) (by show x.name∉_;rw [e];decide) (by show x.name≠_;rw [e];decide) h1
     have e1:plainG (⟨x.name,al,.nil⟩::f::fr):=plainG_in (by show x.name∉_;rw [e];decide) h2
     exact ⟨⟨.blocks,e0,e1,by show x.name∉_;rw [e];decide+kernel,k5 e⟩,.inl ⟨by rw [e];decide,e1⟩⟩
    ·have e0:Path0 (⟨x.name,al,.nil⟩::f::fr):=Path0.in_ (g:=⟨x.name,al,.nil⟩) (by show x.name∉_;rw [e];decide) (by show x.name≠_;rw [e];decide) h1
     exact ⟨⟨.table,e0,by simp,e,k6 e⟩,.inr (.inl e)⟩
 |line=>
  obtain ⟨h1,⟨h2,_⟩,h3⟩:=h
  have hin:x.name∈inlineN:=h2.resolve_left hn
  have hs:x.name∈startN:=(show∀a∈inlineN,a∈startN by decide) _ hin
  have hnp:x.name∉pN:=(show∀a∈inlineN,a∉pN by decide) _ hin
  refine ⟨nmok _ (by simp [hs]),.inl ⟨hs,h1,⟨fun hh=>absurd hh hnp,fun hh=>absurd hh ((show∀a∈inlineN,a∉headN by decide) _ hin),fun he=> ?_,fun hf=>h3 _ hf (.inl rfl)⟩⟩,fun hl=> ?_⟩
  ·exact absurd hin (by rw [he];decide)
  ·have hi:x.name∈inlN:=(show∀a∈inlineN,a∉leafN→a∈inlN by decide) _ hin hl
   have hg:x.name∉grN:=(show∀a∈inlineN,a∉grN by decide) _ hin
   have hcl:x.name∉cellN:=(show∀a∈inlineN,a∉cellN by decide) _ hin
   obtain ⟨g1,g2⟩:=k2 hi
   refine ⟨⟨.line,plainG_in hg h1,g1,fun nm hnm hh hu=> ?_⟩,.inl ⟨(show∀a∈inlN,a∈endN by decide) _ hi,plainG_in hg h1⟩⟩
   have e:upN (⟨x.name,al,.nil⟩::f::fr)=x.name::upN (f::fr):=if_neg hcl
   rw [e] at hu
   rcases List.mem_cons.1 hu with rfl|hu
   ·exact g2 hh
   ·exact h3 nm hnm (.inr (.inl hh)) hu
 |list=>
  obtain ⟨h1,h2,h3,h4,h5,_⟩:=h
  have e:x.name=liW:=List.mem_singleton.1 h5
  refine ⟨nmok _ (by rw [e];decide),.inl ⟨by rw [e];decide,h2,⟨fun _=>h1.nop,fun hh=>absurd hh (by rw [e];decide),fun _=> ?_,fun hf=>absurd hf (by rw [e];decide)⟩⟩,fun hl=> ?_⟩
  ·cases fr with
   |nil=>simp at h3
   |cons g fr=>exact ⟨f,g,fr,rfl,h4⟩
  ·have e0:Path0 (⟨x.name,al,.nil⟩::f::fr):=Path0.in_ (g:=⟨x.name,al,.nil⟩) (by show x.name∉_;rw [e];decide) (by show x.name≠_;rw [e];decide) h1
   have e1:plainG (⟨x.name,al,.nil⟩::f::fr):=plainG_in (by show x.name∉_;rw [e];decide) h2
   refine ⟨?_,.inl ⟨by rw [e];decide,e1⟩⟩
   rcases k9 (.inl e) with hk|hk
   ·exact ⟨.blocks,e0,e1,by show x.name∉_;rw [e];decide+kernel,hk⟩
   ·exact ⟨.line,e1,hk,fun nm hnm _=>e0.nof nm hnm⟩
 |table=>
  obtain ⟨h1,h3,h4,h5,_⟩:=h
  have e:x.name=tbodyW:=List.mem_singleton.1 h5
  refine ⟨nmok _ (by rw [e];decide),.inr ⟨h3,.inl ⟨e,h4⟩⟩,fun hl=>⟨⟨.tbody,?_,by simp,e,k7 e⟩,.inr (.inr (.inl e))⟩⟩
  exact Path0.in_ (g:=⟨x.name,al,.nil⟩) (by show x.name∉_;rw [e];decide) (by show x.name≠_;rw [e];decide) h1
 |tbody=>
  obtain ⟨h1,h3,h4,h5,_⟩:=h
  have e:x.name=trW:=List.mem_singleton.1 h5
  refine ⟨nmok _ (by rw [e];decide),.inr ⟨h3,.inr (.inl ⟨e,h4⟩)⟩,fun hl=>⟨⟨.tr,?_,by simp,e,k8 e⟩,.inr (.inr (.inr (.inl e)))⟩⟩
  exact Path0.in_ (g:=⟨x.name,al,.nil⟩) (by show x.name∉_;rw [e];decide) (by show x.name≠_;rw [e];decide) h1
 |tr=>
  obtain ⟨h1,h3,h4,h5,_⟩:=h
  have hfm:x.name∉fmtN:=(show∀a∈cellN,a∉fmtN by decide) _ h5
  have hp:x.name≠ [112]:=(show∀a∈cellN,a≠ [112] by decide) _ h5
  have e0:Path0 (⟨x.name,al,.nil⟩::f::fr):=Path0.in_ (g:=⟨x.name,al,.nil⟩) hfm hp h1
  have e1:plainG (⟨x.name,al,.nil⟩::f::fr):=plainG_cell h5
  refine ⟨nmok _ (by simp [h5]),.inr ⟨h3,.inr (.inr ⟨h5,h4⟩)⟩,fun hl=>⟨?_,.inr (.inr (.inr (.inr h5)))⟩⟩
  rcases k9 (.inr h5) with hk|hk
  ·exact ⟨.blocks,e0,e1,(show∀a∈cellN,a∉B.wd (B.setW 5) by decide+kernel) _ h5,hk⟩
  ·exact ⟨.line,e1,hk,fun nm hnm _=>e0.nof nm hnm⟩
end
def addA (f:FE) (a:T.AT):FE:={f with done:=f.done.app (bareN a)}
def endK (sk:Bool):T.AT→Bool
 | .nil=>sk
 | .cons _ _ _=>false
theorem lastH_app: ∀(a b:NT),b≠ .nil→(a.app b).lastH=b.lastH
 | .nil,b,_=>rfl
 | .cons x k .nil,b,h=>by
  cases b with
  |nil=>exact absurd rfl h
  |cons y k' r'=>rfl
 | .cons x k (.cons y k' r),b,h=>by
  have:=lastH_app (.cons y k' r) b h
  exact this
theorem lastH_snoc (a:NT) (x:Hd) (k:NT):(a.snoc x k).lastH=some x:=by
 unfold NT.snoc
 rw [lastH_app _ _ (by simp)];rfl
theorem CtxOk.text {cx:Cx} {f:FE} {fr:List FE} {x:T.Hd} {k r:T.AT} (h:CtxOk cx (f::fr) (.cons x k r)) (hn:x.name= []):plainG (f::fr)∧T.headT r=false:=by
 cases cx with
 |line=>exact ⟨h.1,h.2.1.2.1 hn⟩
 |blocks=>exact absurd h.2.2.2.1 (by rw [hn];decide)
 |list=>exact absurd h.2.2.2.2.1 (by rw [hn];decide)
 |table=>exact absurd h.2.2.2.1 (by rw [hn];decide)
 |tbody=>exact absurd h.2.2.2.1 (by rw [hn];decide)
 |tr=>exact absurd h.2.2.2.1 (by rw [hn];decide)
theorem nextTag_toks {nl:Bool} {r:T.AT} {rest:List Tok} (hr:T.headT r=false) (hn:nextTag rest):nextTag (toksF nl r++rest):=by
 cases r with
 |nil=>exact hn
 |cons x k r=>
  have h:x.name≠ []:=fun he=>by simp [T.headT,he] at hr
  by_cases h2:x.name∈leafN
  ·rw [toks_leaf h h2];exact rfl
  ·rw [toks_open h h2];exact rfl
theorem law: ∀(a:T.AT) (cx:Cx) (f:FE) (fr:List FE) (sk nl:Bool) (rest:List Tok),CtxOk cx (f::fr) a→SA a→(f::fr).length+T.deepA a≤700→nl=(sk && a.feeds)→(T.headT a=true→ ∀x,f.done.lastH=some x→x.kind≠2)→nextTag rest→
  (RunOk rest (addA f a::fr,endK sk a)→RunOk (toksF nl a++rest) (f::fr,sk))∧runT (toksF nl a++rest) (f::fr,sk)=runT rest (addA f a::fr,endK sk a)
 | .nil,cx,f,fr,sk,nl,rest,hc,hs,hd,hnl,hl,hn=>by
  have:addA f .nil=f:=by unfold addA;rw [show bareN .nil= .nil from rfl,NT.app_nil]
  rw [this]
  exact ⟨id,rfl⟩
 | .cons x k r,cx,f,fr,sk,nl,rest,hc,hs,hd,hnl,hl,hn=>by
  simp only [T.deepA] at hd
  obtain ⟨hs1,hsr⟩:=hs
  by_cases hx:x.name= []
  ·obtain ⟨hg,hr⟩:=hc.text hx
   rw [if_pos hx] at hs1
   obtain ⟨t1,t2,t3⟩:=hs1
   have hfeeds:(T.AT.cons x k r).feeds=decide (x.text.head? =some 10):=by
    show (decide (x.name= []) && decide (x.text.head? =some 10))=_
    rw [hx];simp
   rw [hfeeds] at hnl
   obtain ⟨v,hv⟩: ∃v,v=if nl=true then 10::x.text else x.text:=⟨_,rfl⟩
   have etoks:toksF nl (.cons x k r)= .text v::toksF false r:=by rw [toks_text hx,hv]
   have estep:stepT (.text v) (f::fr,sk)=(f.txt x.text::fr,false):=by
    show (f.txt (if sk=true∧v.head? =some 10 then v.tail else v)::fr,false)=_
    congr 3
    rw [hv,hnl]
    cases sk
    ·simp
    ·by_cases h10:x.text.head? =some 10
     ·simp [h10]
     ·simp [h10]
   have hlast: ∀y,f.done.lastH=some y→y.kind≠2:=hl (by simp [T.headT,hx])
   have hok:StepOk (.text v) (f::fr,sk):=by
    refine ⟨by show (f::fr).length≤700;omega,?_,?_,?_,hg,⟨f,fr,rfl,hlast⟩,fun h1 h2=> ?_⟩
    ·rw [hv];split
     ·simp
     ·exact t1
    ·rw [hv];split
     ·intro hm;rcases List.mem_cons.1 hm with h|h
      ·exact absurd h (by decide)
      ·exact t2 h
     ·exact t2
    ·rw [hv];split
     ·simp only [List.length_cons];omega
     ·omega
    ·have h1:sk=true:=h1
     rw [hv] at h2 ⊢
     rw [hnl,h1] at h2 ⊢
     by_cases h10:x.text.head? =some 10
     ·simp [h10];exact t1
     ·simp [h10] at h2
   have ih:=law r cx (f.txt x.text) fr false false rest (hc.tail rfl) hsr (by simp only [List.length_cons] at hd ⊢;omega) (by simp) (fun h=>by rw [hr] at h;cases h) hn
   have eadd:addA (f.txt x.text) r=addA f (.cons x k r):=by
    unfold addA FE.txt FE.add
    rw [bare_text hx]
    show FE.mk f.nm f.al _=FE.mk f.nm f.al _
    congr 1
    exact NT.snoc_app _ _ _ _
   have eend:endK false r=endK sk (.cons x k r):=by cases r<;>rfl
   rw [eadd,eend] at ih
   rw [etoks,List.cons_append]
   refine ⟨fun hh=>⟨hok,fun _=>nextTag_toks hr hn,?_⟩,?_⟩
   ·rw [estep];exact ih.1 hh
   ·show runT (toksF false r++rest) (stepT (.text v) (f::fr,sk))=_
    rw [estep];exact ih.2
  ·rw [if_neg hx] at hs1
   obtain ⟨ha,hk,hsk⟩:=hs1
   obtain ⟨c1,c2,c3⟩:=hc.start hx hk x.attrs
   have hok:StepOk (.start x.name x.attrs) (f::fr,sk):=⟨by simp,by show (f::fr).length≤700;omega,c1,ha,c2⟩
   have eend: ∀s,endK s r=endK sk (.cons x k r)∨s≠false:=fun s=>by cases s<;>cases r<;>simp [endK]
   by_cases hlf:x.name∈leafN
   ·have etoks:toksF nl (.cons x k r)= .start x.name x.attrs::toksF false r:=toks_leaf hx hlf
    have hkn:k= .nil:=hk.2.2.1 hlf
    have estep:stepT (.start x.name x.attrs) (f::fr,sk)=(f.shut ⟨x.name,x.attrs,.nil⟩::fr,false):=by
     show (startF x.name x.attrs (f::fr),decide (x.name=preW))=_
     rw [decide_eq_false ((show∀a∈leafN,a≠preW by decide) _ hlf)]
     congr 1
     exact if_pos hlf
    have hl':T.headT r=true→ ∀y,(f.shut ⟨x.name,x.attrs,.nil⟩).done.lastH=some y→y.kind≠2:=fun _ y hy=>by
     have:(f.shut ⟨x.name,x.attrs,.nil⟩).done.lastH=some (elemH x.name x.attrs):=lastH_snoc _ _ _
     rw [this] at hy;cases hy;show (1:Int)≠2;decide
    have ih:=law r cx (f.shut ⟨x.name,x.attrs,.nil⟩) fr false false rest (hc.tail rfl) hsr (by simp only [List.length_cons] at hd ⊢;omega) (by simp) hl' hn
    have eadd:addA (f.shut ⟨x.name,x.attrs,.nil⟩) r=addA f (.cons x k r):=by
     unfold addA FE.shut FE.add
     rw [bare_elem hx,hkn]
     show FE.mk f.nm f.al _=FE.mk f.nm f.al _
     congr 1
     exact NT.snoc_app _ _ _ _
    rw [eadd,(eend false).resolve_right (by simp)] at ih
    rw [etoks,List.cons_append]
    refine ⟨fun hh=>⟨hok,fun h=>absurd h Bool.false_ne_true,?_⟩,?_⟩
    ·rw [estep];exact ih.1 hh
    ·show runT (toksF false r++rest) (stepT (.start x.name x.attrs) (f::fr,sk))=_
     rw [estep];exact ih.2
   ·obtain ⟨⟨cx',hc'⟩,hend⟩:=c3 hlf
    have etoks:toksF nl (.cons x k r)++rest= .start x.name x.attrs::(toksF (decide (x.name=preW) && k.feeds) k++(.fin x.name::(toksF false r++rest))):=by
     rw [toks_open hx hlf];simp
    have estep:stepT (.start x.name x.attrs) (f::fr,sk)=(⟨x.name,x.attrs,.nil⟩::f::fr,decide (x.name=preW)):=by
     show (startF x.name x.attrs (f::fr),decide (x.name=preW))=_
     congr 1
     exact if_neg hlf
    have ihk:=law k cx' ⟨x.name,x.attrs,.nil⟩ (f::fr) (decide (x.name=preW)) (decide (x.name=preW) && k.feeds) (.fin x.name::(toksF false r++rest)) hc' hsk (by simp only [List.length_cons] at hd ⊢;omega) rfl (fun _ y hy=>by cases hy) rfl
    obtain ⟨g,hg⟩: ∃g,g=addA ⟨x.name,x.attrs,.nil⟩ k:=⟨_,rfl⟩
    have hgn:g.nm=x.name:=by rw [hg];rfl
    have hga:g.al=x.attrs:=by rw [hg];rfl
    have hgd:g.done=bareN k:=by rw [hg];rfl
    rw [←hg] at ihk
    have hl':T.headT r=true→ ∀y,(f.shut g).done.lastH=some y→y.kind≠2:=fun _ y hy=>by
     have:(f.shut g).done.lastH=some (elemH g.nm g.al):=lastH_snoc _ _ _
     rw [this] at hy;cases hy;show (1:Int)≠2;decide
    have ih:=law r cx (f.shut g) fr false false rest (hc.tail rfl) hsr (by simp only [List.length_cons] at hd ⊢;omega) (by simp) hl' hn
    have eadd:addA (f.shut g) r=addA f (.cons x k r):=by
     unfold addA FE.shut FE.add
     rw [hgn,hga,hgd]
     show FE.mk f.nm f.al _=FE.mk f.nm f.al (f.done.app (bareN (.cons x k r)))
     rw [bare_elem hx]
     congr 1
     exact NT.snoc_app _ _ _ _
    rw [eadd,(eend false).resolve_right (by simp)] at ih
    have efin: ∀s,stepT (.fin x.name) (g::f::fr,s)=(f.shut g::fr,false):=fun s=>rfl
    have okfin: ∀s,StepOk (.fin x.name) (g::f::fr,s):=fun s=>by
     refine ⟨by simp only [List.length_cons] at hd ⊢;omega,by simp,hgn,c1,?_⟩
     rcases hend with ⟨h1,h2⟩|h1
     ·exact .inl ⟨h1,plainG_same hgn h2⟩
     ·exact .inr h1
    rw [etoks]
    refine ⟨fun hh=>⟨hok,fun h=>absurd h Bool.false_ne_true,?_⟩,?_⟩
    ·rw [estep]
     refine ihk.1 ⟨okfin _,fun h=>absurd h Bool.false_ne_true,?_⟩
     rw [efin];exact ih.1 hh
    ·show runT (toksF _ k++_) (stepT (.start x.name x.attrs) (f::fr,sk))=_
     rw [estep,ihk.2]
     show runT (toksF false r++rest) (stepT (.fin x.name) (g::f::fr,_))=_
     rw [efin];exact ih.2
theorem flat_toks: ∀(a:T.AT) (nl:Bool),(nl=true→a.feeds=true)→flatT (toksF nl a)=(if nl=true then [10] else [])++a.text
 | .nil,nl,h=>by
  cases nl
  ·rfl
  ·exact absurd (h rfl) (by simp [T.AT.feeds])
 | .cons x k r,nl,h=>by
  have ihr:=flat_toks r false (fun h=>by cases h)
  simp only [Bool.false_eq_true,if_false,List.nil_append] at ihr
  rw [T.AT.text]
  by_cases hx:x.name= []
  ·rw [toks_text hx,if_pos hx]
   unfold flatT at ihr ⊢
   rw [List.flatMap_cons,ihr]
   cases nl
   ·rfl
   ·show T.safeN false (10::x.text)++r.text=_
    have:T.safeN false (10::x.text)=10::T.safeN false x.text:=rfl
    rw [this];rfl
  ·have hnl:nl=false:=by
    cases nl
    ·rfl
    ·have:=h rfl
     simp [T.AT.feeds,hx] at this
   subst hnl
   rw [if_neg hx]
   simp only [Bool.false_eq_true,if_false,List.nil_append]
   by_cases hlf:x.name∈leafN
   ·have h2:x.name=T.nBr∨x.name=T.nHr∨x.name=T.nImg:=(show∀a∈leafN,a=T.nBr∨a=T.nHr∨a=T.nImg by decide) _ hlf
    rw [toks_leaf hx hlf,if_pos h2]
    unfold flatT at ihr ⊢
    rw [List.flatMap_cons,ihr]
    simp [Tok.txt,T.openS]
   ·have h2: ¬(x.name=T.nBr∨x.name=T.nHr∨x.name=T.nImg):=fun h=>hlf (by rcases h with h|h|h<;>rw [h]<;>decide)
    rw [toks_open hx hlf,if_neg h2]
    have ihk:=flat_toks k (decide (x.name=preW) && k.feeds) (fun h=>by simp only [Bool.and_eq_true] at h;exact h.2)
    unfold flatT at ihr ihk ⊢
    rw [List.flatMap_cons,List.flatMap_append,List.flatMap_cons,ihk,ihr]
    have e3:(if (decide (x.name=preW) && k.feeds)=true then [10] else ([]:List UInt8))=if x.name=T.nPre∧k.feeds=true then [10] else []:=by
     have:preW=T.nPre:=rfl
     rw [this]
     simp only [Bool.and_eq_true,decide_eq_true_eq]
    rw [e3]
    simp [Tok.txt,T.openS]
theorem deep_bare: ∀a:T.AT,SA a→deepT (bareN a)≤T.deepA a
 | .nil,_=>Nat.le_refl _
 | .cons x k r,hs=>by
  obtain ⟨hs1,hsr⟩:=hs
  have h2:=deep_bare r hsr
  by_cases hx:x.name= []
  ·rw [bare_text hx]
   simp only [deepT,T.deepA]
   omega
  ·rw [bare_elem hx]
   rw [if_neg hx] at hs1
   have h1:=deep_bare k hs1.2.2
   simp only [deepT,T.deepA]
   omega
theorem parseA_calls {w:World} (a:T.AT) (ho:T.ofA blocksN a) (hs:SA a) (hd:T.deepA a≤200) (hl:a.text.length≤1048576):
  Calls Tryz.prog 9 [.string (bs a.text)].toArray w fun e w'=> ∃vo,e= .returned (.tuple #[vo,.int .i64 0])∧TreeAt w' vo (bareN a)∧(bareN a).size≤10000000∧Chg w w' No:=by
 have hft:=flat_toks a false (fun h=>by cases h)
 simp only [Bool.false_eq_true,if_false,List.nil_append] at hft
 have hc:CtxOk .blocks [rootF] a:=by
  refine ⟨⟨fun g hg=> ?_,fun nm hn hh=> ?_⟩,.inl rfl,by decide+kernel,ho⟩
  ·rw [List.mem_singleton.1 hg];decide
  ·revert hn hh
   have: ∀b∈fmtN,b∉upN [rootF]:=by decide
   exact this nm
 have hlaw:=law a .blocks rootF [] false false [] hc hs (by simp only [List.length_cons,List.length_nil];omega) (by simp) (fun _ x hx=>by cases hx) trivial
 rw [List.append_nil] at hlaw
 have:=parse_calls (w:=w) a.text (toksF false a) hft.symm hl (hlaw.1 trivial) (addA rootF a) (endK false a) hlaw.2 (by have:=deep_bare a hs;show deepT (NT.nil.app (bareN a))≤_;show deepT (bareN a)≤_;omega)
 exact this
theorem AttrS_of {w:World} {v:Value} {l:List T.At} (h:T.AttrS true w v l):AttrS w v (encT l):=by
 have:=h.2 rfl
 unfold AttrS
 rw [encT_len,encT_enc]
 exact this
theorem bareC_calls: ∀(f:Nat) {w:World} {v:Value} {t:T.AT},T.TreeAt true w v t→t.size≤f→f≤100000000000→
  Calls Tryz.prog 12 [v].toArray w fun e w'=> ∃vo,e= .returned vo∧TreeOk w' (fun b=>w.heap.size≤b) (fun _=>True) vo (bareN t)∧Chg w w' No:=by
 intro f
 induction f with
 |zero=>
  intro w v t h hs _
  cases t with
  |cons x k r=>simp [T.AT.size] at hs
  |nil=>
   obtain ⟨A,c,rfl,hc⟩:=h.form
   refine zCz 37 Tryz.func12 ?_
   refine zz ?_
   refine zc_loopW (ι:=Nat) (fun i u=> [(0,.slice A 0 c),(3,.slice none 0 0),(4,.int .i64 0)]) (fun i u=>u=w) (fun i u=>0) 0 rfl ?_ ?_
   ·exact ⟨rfl,rfl,rfl,trivial⟩
   rintro i u hu
   obtain rfl:=hu.symm
   refine zz ?_
   exact zk_ret1 (.inr rfl) rfl rfl ⟨_,rfl,TreeOk.nil,Chg.refl _ _⟩
 |succ f ih=>
  intro w v t h hs hf
  obtain ⟨A,c,hv,hc⟩:=h.form
  have hls:=t.len_size
  subst hv
  refine zCz 37 Tryz.func12 ?_
  refine zz ?_
  refine zc_loopW (ι:=Nat×Value×NT) (fun q u=> [(0,.slice A t.len c),(3,q.2.1),(4,.int .i64 q.1)])
   (fun q u=>q.1≤t.len∧Out w.heap.size (fun _=>True) u q.2.1 q.2.2∧q.2.2.len=q.1∧q.2.2.app (bareN (t.dropN q.1))=bareN t∧Chg w u No) (fun q u=>t.len - q.1) (0,.slice none 0 0,.nil)
   ⟨Nat.zero_le _,Out.nil,rfl,rfl,Chg.refl _ _⟩ ?_ ?_
  ·exact ⟨rfl,rfl,rfl,trivial⟩
  rintro ⟨i,vo,T0⟩ u ⟨hi,hOut,hTl,hd,hC⟩
  dsimp only at hi hOut hTl hd ⊢
  by_cases hlt:i<t.len
  rotate_left
  ·obtain rfl:i=t.len:=by omega
   rw [t.drop_len] at hd
   have hd:T0=bareN t:=by rw [←hd];exact (NT.app_nil _).symm
   subst hd
   refine zz ?_
   exact zk_ret1 (.inr rfl) rfl rfl ⟨_,rfl,hOut.tree,hC⟩
  obtain ⟨b,o,c',x,k,r,A',F',K',e1,hv,hN,hA,hF,hK⟩:=(h.no hC).at_ i hlt
  cases hv
  obtain ⟨FA,Fm,Fc,rfl⟩:=hF
  obtain ⟨AA,cA,rfl,_⟩:=hA.form
  obtain ⟨AK,cK,rfl,_⟩:=hK.form
  have hsz:=t.drop_size i
  rw [e1] at hsz
  simp only [T.AT.size] at hsz
  have edrop:=t.drop_succ i x k r e1
  obtain ⟨A0,c0,hv0,hc0⟩:=hOut.form
  subst hv0
  have hBu:w.heap.size≤u.heap.size:=hC.size
  refine zz ?_
  refine z_loadA (by rfl) (want_L rfl) (by decide) rfl (hN.agg (by omega)) ?_
  refine zAl (fun u1 b5 hN5=> ?_)
  have hb50:Blk u1 b5 43 [.string ⟨#[]⟩,.slice none 0 0,.string ⟨#[]⟩,.slice none 0 0,.slice none 0 0]:=hN5.blk
  have hge5:=hN5.ge (Chg.refl u No)
  refine z_store (want_L rfl) rfl rfl rfl (by assumption) (by first|exact Nat.le_refl _|simp [Value.cells]) (by simp [Value.cells,Value.oneCell']) (fun u2 hU2=> ?_)
  have hb5:Blk u2 b5 43 [.string (bs x.name),.slice AA x.attrs.length cA,.string (bs x.text),.slice FA Fm Fc,.slice AK k.len cK]:=hU2.blk
  have hX2:Chg u u2 No:=hN5.chg.upd hU2 hge5
  have hC2:=hC.no hX2
  have hOut2:=hOut.no hX2
  refine zz ?_
  refine zEq (r:= []) rfl rfl (fun hx=> ?_) (fun hx=> ?_)
  ·refine zz ?_
   refine z_buildE #[.int .i64 2,.int .i64 0,.string ⟨#[]⟩,.slice none 0 0,.string (bs x.text),.int .i64 0,.slice none 0 0] (want_L rfl) (by decide) rfl (by kernel_rfl) ?_
   refine zB1 rfl (fun u3 b3 hN3=> ?_)
   have hx9:HR u2 ⟨2,0,⟨#[]⟩,.slice none 0 0,bs x.text,0,.slice none 0 0⟩ (textH x.text):=⟨rfl,rfl,rfl,AttrS.nil _,rfl,rfl⟩
   have hR:RdS u3 80 7 (.slice (some ⟨b3,0,none⟩) 1 1) 1 (encN [⟨2,0,⟨#[]⟩,.slice none 0 0,bs x.text,0,.slice none 0 0⟩]):=RdS.node (ks:= []) hx9 RdS.nil hN3
   obtain ⟨mz,g1,g2,g3⟩:=hOut2
   have hml:=Rows.len _ mz (RowsOk.rows _ mz g3)
   have hb53:=hb5.no hN3.chg
   refine z_appendO (by rfl) (by decide) (want_L rfl) (by decide) rfl rfl (g1.no hN3.chg) hR (by omega) (by omega) (fun v4 u4 hO4 hX4 hr4=> ?_)
   have hOut4:=Out.push g1 g2 g3 hx9 (by intro hl b hb;trivial) TreeOk.nil (by have:=hX2.size;omega) hN3.chg hO4 hX4 hr4
   obtain ⟨A4,c4,rfl,_⟩:=hO4.rd.form
   have hC4:Chg w u4 No:=(hC2.no hN3.chg).trans hX4 (fun j hj he=>by have:=g2 j he;omega)
   refine zz ?_
   refine zk_loopW (i+1,.slice A4 (mz.length+1) c4,T0.snoc (textH x.text) .nil) ⟨by omega,hOut4,by rw [NT.snoc_len,hTl],?_,hC4⟩ (by show t.len - (i+1)<t.len - i;omega) ⟨rfl,rfl,get_int rfl (by simp),trivial⟩
   dsimp only
   rw [edrop,NT.snoc_app,←bare_text (k:=k) hx,←e1]
   exact hd
  ·refine zN (zK (zF rfl ?_))
   refine zc_draw [] (fun w'=>Blk w' b5 43 [.string (bs x.name),.slice AA x.attrs.length cA,.string (bs x.text),.slice FA Fm Fc,.slice AK k.len cK]) (.take 0 (.take 1 (.take 2 (.take 3 (.take 4 (.take 5 (.take 6 (.all1 7 (.take 8 (.all1 9 (.all1 10 (.take 11 (.fin))))))))))))) (by rfl) (by kernel_rfl) (by kernel_rfl) (fun u3 hC3 _=>⟨?_,?_⟩)
   ·exact hb5.no hC3
   have hX3:=hX2.no hC3
   refine zz ?_
   refine zs_call rfl (want_L rfl) rfl (by decide) rfl (ih ((hK.no hX3)) (by omega) (by omega)) ?_
   rintro _ u4 ⟨vk,rfl,hTk,hC4⟩
   have hX4:=hX3.no hC4
   obtain ⟨Ak,ck,rfl,_⟩:=hTk.at'.form
   refine ⟨_,rfl,hb5.no (hC3.no hC4),?_⟩
   refine zRd rfl rfl (fun _ hS=>r_build' (cells:= #[.int .i64 1,.int .i64 1,.string (bs x.name),.slice AA x.attrs.length cA,.string ⟨#[]⟩,.int .i64 0,.slice Ak (bareN k).len ck]) rfl (by kernel_rfl)) ?_
   refine zs_bs1 rfl (want_L rfl) (by decide) rfl (by rfl) (by rfl) (by decide) (by decide) (fun u5 b3 hN3=> ?_)
   have hb55:=(hb5.no (hC3.no hC4)).no hN3.chg
   refine ⟨hb55,?_⟩
   have ha4:AttrS u4 (.slice AA x.attrs.length cA) (encT x.attrs):=AttrS_of (hA.no hX4)
   have hx9:HR u4 ⟨1,1,bs x.name,.slice AA x.attrs.length cA,⟨#[]⟩,0,.slice Ak (bareN k).len ck⟩ (elemH x.name x.attrs):=⟨rfl,rfl,rfl,ha4,rfl,rfl⟩
   have hTk0:=hTk
   obtain ⟨kz,hk1,_,_⟩:=hTk0
   have hR:RdS u5 80 7 (.slice (some ⟨b3,0,none⟩) 1 1) 1 (encN [⟨1,1,bs x.name,.slice AA x.attrs.length cA,⟨#[]⟩,0,.slice Ak (bareN k).len ck⟩]):=RdS.node hx9 hk1 hN3
   have hOut4:=hOut.no hX4
   obtain ⟨mz,g1,g2,g3⟩:=hOut4
   have hml:=Rows.len _ mz (RowsOk.rows _ mz g3)
   have hs4:=hX4.size
   have hs3:=hX3.size
   have hvlt: ∀k,(Value.slice A0 T0.len c0).ownBlock=some k→k<u.heap.size:=fun k hk=>by obtain ⟨ms,q1,_,_⟩:=hOut;exact q1.lt hk
   refine zs_appendO rfl (by rfl) (by decide) (want_L rfl) (by decide) rfl rfl (g1.no hN3.chg) hR (by omega) (by omega) (fun v6 u6 hO6 hX6 hr6=> ?_)
   have hOut6:=Out.push g1 g2 g3 hx9 (by intro hl b hb;trivial) (hTk.mono (fun b hb hk=>⟨by omega,fun he=>by have:=hvlt b he;omega⟩) (fun b hb hk=>trivial)) (by omega) hN3.chg hO6 hX6 hr6
   refine ⟨hb55.chg hX6 (fun he=>by have:=hvlt _ he;omega),?_⟩
   obtain ⟨A6,c6,rfl,_⟩:=hO6.rd.form
   have hC6:Chg w u6 No:=((hC.no hX4).no hN3.chg).trans hX6 (fun j hj he=>by have:=g2 j he;omega)
   refine zz ?_
   refine zk_loopW (i+1,.slice A6 (mz.length+1) c6,T0.snoc (elemH x.name x.attrs) (bareN k)) ⟨by omega,hOut6,by rw [NT.snoc_len,hTl],?_,hC6⟩ (by show t.len - (i+1)<t.len - i;omega) ⟨rfl,rfl,get_int rfl (by simp),trivial⟩
   dsimp only
   rw [edrop,NT.snoc_app,←bare_elem hx,←e1]
   exact hd
end Go.Proofs.YtbcmiijollpgeaaGreat.D
namespace Go.Proofs.YtbcmiijollpgeaaGreat.T
open Go Go.Z Go.Proofs
def AT.setN:Nat→AT→Hd→AT→AT
 |_,.nil,_,_=> .nil
 |0,.cons _ _ r,x,k=> .cons x k r
 |i+1,.cons y q r,x,k=> .cons y q (AT.setN i r x k)
theorem AT.setN_wt: ∀(i:Nat) (t:AT) (x:Hd) (k:AT) (y:Hd) (q r:AT),t.dropN i= .cons y q r→
  (t.setN i x k).wt+(2*y.name.length+attrsN y.attrs+6*y.text.length+10+q.wt)=t.wt+(2*x.name.length+attrsN x.attrs+6*x.text.length+10+k.wt)
 |0,.cons y q r,x,k,y',q',r',h=>by
  have h':AT.cons y q r= .cons y' q' r':=h
  cases h'
  simp only [AT.setN,AT.wt];omega
 |0,.nil,x,k,y,q,r,h=>by cases h
 |i+1,.nil,x,k,y,q,r,h=>by cases h
 |i+1,.cons z p s,x,k,y,q,r,h=>by
  have:=AT.setN_wt i s x k y q r h
  simp only [AT.setN,AT.wt];omega
theorem Rows.set {s:Bool} {w:World}: ∀(i:Nat) (t:AT) (ms:List MA) (m:MA) (x:Hd) (k:AT),Rows s w t ms→i<t.len→HR s w m x→TreeAt s w m.kids k→Rows s w (t.setN i x k) (ms.set i m)
 |0,.cons y q r,ms,m,x,k,h,hi,hm,hk=>by
  obtain ⟨m0,p,rfl,h2,h3,h4⟩:=h
  exact ⟨m,p,rfl,hm,hk,h4⟩
 |i+1,.cons y q r,ms,m,x,k,h,hi,hm,hk=>by
  obtain ⟨m0,p,rfl,h2,h3,h4⟩:=h
  exact ⟨m0,p.set i m,rfl,h2,h3,Rows.set i r p m x k h4 (by simp only [AT.len] at hi;omega) hm hk⟩
 |0,.nil,ms,m,x,k,h,hi,hm,hk=>by simp [AT.len] at hi
 |i+1,.nil,ms,m,x,k,h,hi,hm,hk=>by simp [AT.len] at hi
theorem encM_set (m:MA): ∀(ms:List MA) (i:Nat),i<ms.length→Z.lay (encM ms) (i*5) m.cells=encM (ms.set i m)
 | [],i,h=>by simp at h
 |a::r,0,h=>by simp [Z.lay,encM,MA.cells]
 |a::r,i+1,h=>by
  have ih:=encM_set m r i (by simpa using h)
  have e:(i+1)*5=i*5+1+1+1+1+1:=by omega
  simp only [Z.lay,encM,List.set_cons_succ,MA.cells,List.length_cons,List.length_nil] at ih ⊢
  rw [←ih,e]
  simp [Nat.add_assoc]
theorem own_setM {w:World} {b c:Nat} {ms:List MA} (h:Own w 43 5 (.slice (some ⟨b,0,none⟩) ms.length c) ms.length (encM ms)) (i:Nat) (hi:i<ms.length) (m:MA) (h1: ∀u∈m.cells,u.oneCell'=true):
  ∃cells:List Value,Blk w b 43 cells∧i*5+5≤cells.length∧ ∀w',Upd w w' b 43 (Z.lay cells (i*5) m.cells)→Own w' 43 5 (.slice (some ⟨b,0,none⟩) ms.length c) ms.length (encM (ms.set i m)):=by
 have hl:=encM_len ms
 obtain ⟨cells,h2,h3,_,h5⟩:=Own.lay (o:=i*5) (vs:=m.cells) h (by rw [hl];simp only [MA.cells,List.length_cons,List.length_nil];omega) h1
 refine ⟨cells,h2,by simpa [MA.cells] using h3,fun w' hU=> ?_⟩
 have:=h5 w' hU
 rwa [encM_set m ms i hi] at this
theorem own_zero {w:World} {b o c:Nat} {ms:List MA} (h:Own w 43 5 (.slice (some ⟨b,o,none⟩) ms.length c) ms.length (encM ms)):o=0:=by
 rcases h.cases.2 with ⟨hv,_⟩|⟨b',cap,junk,hv,_⟩
 ·cases hv
 ·cases hv;rfl
theorem RowsOk.set {w:World} {o:Nat→Prop}: ∀(i:Nat) (t:AT) (ms:List MA) (m:MA) (x:Hd) (k:AT),RowsOk w o t ms→i<t.len→HO w m x→TreeOk w o m.kids k→RowsOk w o (t.setN i x k) (ms.set i m)
 |0,.cons y q r,ms,m,x,k,h,hi,hm,hk=>by
  obtain ⟨m0,p,rfl,h2,h3,h4⟩:=h
  exact ⟨m,p,rfl,hm,hk,h4⟩
 |i+1,.cons y q r,ms,m,x,k,h,hi,hm,hk=>by
  obtain ⟨m0,p,rfl,h2,h3,h4⟩:=h
  exact ⟨m0,p.set i m,rfl,h2,h3,RowsOk.set i r p m x k h4 (by simp only [AT.len] at hi;omega) hm hk⟩
 |0,.nil,ms,m,x,k,h,hi,hm,hk=>by simp [AT.len] at hi
 |i+1,.nil,ms,m,x,k,h,hi,hm,hk=>by simp [AT.len] at hi
theorem RowsOk.at_ {w:World} {o:Nat→Prop}: ∀(t:AT) (ms:List MA) (i:Nat),RowsOk w o t ms→i<t.len→ ∃x k r,t.dropN i= .cons x k r∧HO w (ms.getD i MA.z) x∧TreeOk w o (ms.getD i MA.z).kids k
 | .nil,ms,i,h,hi=>by simp [AT.len] at hi
 | .cons x k r,ms,0,h,hi=>by
  obtain ⟨m,q,rfl,h2,h3,h5⟩:=h
  exact ⟨x,k,r,rfl,h2,h3⟩
 | .cons x k r,ms,i+1,h,hi=>by
  obtain ⟨m,q,rfl,h2,h3,h5⟩:=h
  exact RowsOk.at_ r q i h5 (by simp only [AT.len] at hi;omega)
theorem rowOk_at {w:World} {o:Nat→Prop} {v:Value} {t:AT} {ms:List MA} (h1:RdS w 43 5 v ms.length (encM ms)) (h2:RowsOk w o t ms) (i:Nat) (hi:i<t.len): ∃b o' c x k r A F K,t.dropN i= .cons x k r∧v= .slice (some ⟨b,o',none⟩) t.len c∧ArtC w b (o'+i*5) x A F K∧AtS w A x.attrs∧isSl F∧TreeOk w o K k:=by
 have hlen:=Rows.len t ms (RowsOk.rows t ms h2)
 obtain ⟨b,o',c,hv,_,hc⟩:=RdS.some h1 (by omega)
 obtain ⟨x,k,r,e1,⟨g0,g1,g2,g3⟩,e3⟩:=RowsOk.at_ t ms i h2 hi
 have hg:=encM_get ms i (by omega)
 refine ⟨b,o',c,x,k,r,(ms.getD i MA.z).attrs,(ms.getD i MA.z).fr,(ms.getD i MA.z).kids,e1,by rw [hv,hlen],?_,g1,g3,e3⟩
 constructor
 ·have:=hc _ _ (hg 0 _ rfl);rw [←g0];exact this
 ·have:=hc _ _ (hg 1 _ rfl);rw [Nat.add_assoc];exact this
 ·have:=hc _ _ (hg 2 _ rfl);rw [←g2];rw [Nat.add_assoc];exact this
 ·have:=hc _ _ (hg 3 _ rfl);rw [Nat.add_assoc];exact this
 ·have:=hc _ _ (hg 4 _ rfl);rw [Nat.add_assoc];exact this
def wtH (x:Hd) (k:AT):Nat:=2*x.name.length+attrsN x.attrs+6*x.text.length+10+k.wt
def sJv:List UInt8:= [106,97,118,97,115,99,114,105,112,116,58,49]
def sOnc:List UInt8:= [111,110,99,108,105,99,107]
def lKeyT:List (List UInt8):=lKey++ [sOnc]
def lValT:List (List UInt8):=lVal++ [[120],sJv]
def AtsT (l:List At):Prop:=(l.map (·.1)).Nodup∧l.length≤4∧ ∀a∈l,a.1∈lKeyT∧a.2∈lValT
def HdT (x:Hd):Prop:=AtsT x.attrs∧x.text.length≤20
def AT.okT:AT→Prop
 | .nil=>True
 | .cons x k r=>HdT x∧k.okT∧r.okT
theorem AtsT_of {l:List At} (h1:LN l) (h2: ∀a∈l,a.1∈lKey∧a.2∈lVal):AtsT l:=by
 refine ⟨h1.2,by have:=h1.1;omega,fun a ha=> ?_⟩
 exact ⟨List.mem_append_left _ (h2 a ha).1,List.mem_append_left _ (h2 a ha).2⟩
theorem HdT_of {x:Hd} (h:HdOk x):HdT x:=⟨AtsT_of h.2.1 h.2.2.1,by have:=tx_len _ h.2.2.2;omega⟩
theorem AT.okT_of: ∀t:AT,t.ok→t.okT
 | .nil,_=>trivial
 | .cons x k r,⟨h1,h2,h3⟩=>⟨HdT_of h1,AT.okT_of k h2,AT.okT_of r h3⟩
theorem AT.okT_app: ∀t q:AT,t.okT→q.okT→(t.app q).okT
 | .nil,q,_,h=>h
 | .cons x k r,q,⟨h1,h2,h3⟩,h=>⟨h1,h2,AT.okT_app r q h3 h⟩
theorem AT.okT_set: ∀(i:Nat) (t:AT) (x:Hd) (k:AT),t.okT→HdT x→k.okT→(t.setN i x k).okT
 |0,.nil,_,_,_,_,_=>trivial
 |_+1,.nil,_,_,_,_,_=>trivial
 |0,.cons _ _ r,x,k,⟨_,_,h3⟩,hx,hk=>⟨hx,hk,h3⟩
 |i+1,.cons y q r,x,k,⟨h1,h2,h3⟩,hx,hk=>⟨h1,h2,AT.okT_set i r x k h3 hx hk⟩
theorem deep_app: ∀t q:AT,deepA (t.app q)=max (deepA t) (deepA q)
 | .nil,q=>by simp [AT.app,deepA]
 | .cons x k r,q=>by have:=deep_app r q;simp only [AT.app,deepA];omega
theorem deep_set: ∀(i:Nat) (t:AT) (x:Hd) (k:AT),deepA (t.setN i x k)≤max (deepA t) (1+deepA k)
 |_,.nil,_,_=>by simp [AT.setN,deepA]
 |0,.cons y q r,x,k=>by simp only [AT.setN,deepA];omega
 |i+1,.cons y q r,x,k=>by have:=deep_set i r x k;simp only [AT.setN,deepA];omega
theorem deep_at: ∀(i:Nat) (t:AT) (x:Hd) (k r:AT),t.dropN i= .cons x k r→1+deepA k≤deepA t
 |0,.nil,x,k,r,h=>by cases h
 |0,.cons _ _ _,x,k,r,h=>by cases h;simp only [deepA];omega
 |i+1,.nil,x,k,r,h=>by cases h
 |i+1,.cons y q s,x,k,r,h=>by have:=deep_at i s x k r h;simp only [deepA];omega
theorem ok_at: ∀(i:Nat) (t:AT) (x:Hd) (k r:AT),t.ok→t.dropN i= .cons x k r→HdOk x∧k.ok
 |0,.nil,x,k,r,_,h=>by cases h
 |0,.cons _ _ _,x,k,r,ho,h=>by cases h;exact ⟨ho.1,ho.2.1⟩
 |i+1,.nil,x,k,r,_,h=>by cases h
 |i+1,.cons y q s,x,k,r,ho,h=>ok_at i s x k r ho.2.2 h
theorem AtsT_push {l:List At} (h1:LN l) (h2: ∀a∈l,a.1∈lKey∧a.2∈lVal):AtsT (l++ [(sOnc,[120])]):=by
 have hk: ∀n∈lKey,n≠sOnc:=by decide+kernel
 refine ⟨?_,by rw [List.length_append];have:=h1.1;simp;omega,fun a ha=> ?_⟩
 ·rw [List.map_append,List.nodup_append]
  refine ⟨h1.2,by simp,fun a ha b hb=> ?_⟩
  obtain ⟨y,hy,rfl⟩:=List.mem_map.1 ha
  simp only [List.map_cons,List.map_nil,List.mem_singleton] at hb
  subst hb
  exact hk _ (h2 y hy).1
 ·rcases List.mem_append.1 ha with ha|ha
  ·exact ⟨List.mem_append_left _ (h2 a ha).1,List.mem_append_left _ (h2 a ha).2⟩
  ·rw [List.mem_singleton] at ha;subst ha
   exact ⟨List.mem_append_right _ (by simp),List.mem_append_right _ (by simp)⟩
theorem AtsT_head {a0:At} {l:List At} (h1:LN (a0::l)) (h2: ∀a∈a0::l,a.1∈lKey∧a.2∈lVal):AtsT ((a0.1,sJv)::l):=by
 have h:=AtsT_of h1 h2
 refine ⟨h.1,h.2.1,fun a ha=> ?_⟩
 rcases List.mem_cons.1 ha with rfl|ha
 ·exact ⟨(h.2.2 a0 List.mem_cons_self).1,List.mem_append_right _ (by simp)⟩
 ·exact h.2.2 a (List.mem_cons_of_mem _ ha)
def TurnC (f:Nat):Prop:= ∀{w:World} {B bt:Nat} {v:Value} {ob:Nat→Prop} (t:AT),t.size≤f→Tp w B bt→TreeOk w ob v t→t.ok→t.wt≤300000000000→
 Calls Tryz.prog 13 [v,.pointer (some ⟨bt,0,none⟩)].toArray w fun e w'=> ∃v' t',e= .returned v'∧TreeOk w' (fun b=>ob b∨w.heap.size≤b) v' t'∧t'.wt≤2*t.wt+200∧Tp w' B bt∧Chg w w' (· =bt)∧t'.okT∧deepA t'≤deepA t+1
theorem wt_at {t:AT} {i:Nat} {x:Hd} {k r:AT} (h:t.dropN i= .cons x k r):wtH x k≤t.wt:=by
 have:=t.drop_text i
 rw [h] at this
 simp only [AT.wt] at this
 unfold wtH;omega
theorem drop_some: ∀(i:Nat) (t:AT) (x:Hd) (k r:AT),t.dropN i= .cons x k r→i<t.len
 |0,.cons _ _ _,x,k,r,h=>by simp [AT.len]
 |0,.nil,x,k,r,h=>by cases h
 |i+1,.nil,x,k,r,h=>by cases h
 |i+1,.cons _ _ s,x,k,r,h=>by have:=drop_some i s x k r h;simp only [AT.len];omega
structure TM where
 x:Hd
 k:AT
 A:Value
 F:Value
 K:Value
 vo:Value
 ms:List MA
 t:AT
 r:AT
structure TMid (ob:Nat→Prop) (w u:World) (B bt b7 i:Nat) (x0:Hd) (k0 t0:AT) (q:TM):Prop where
 blk:Blk u b7 43 [.string (bs q.x.name),q.A,.string (bs q.x.text),q.F,q.K]
 a:AtS u q.A q.x.attrs
 f:isSl q.F
 k:TreeOk u (fun b=>q.vo.ownBlock≠some b∧(ob b∨w.heap.size≤b)) q.K q.k
 own:Own u 43 5 q.vo q.ms.length (encM q.ms)
 rows:RowsOk u (fun b=>q.vo.ownBlock≠some b∧(ob b∨w.heap.size≤b)) q.t q.ms
 at_:q.t.dropN i= .cons x0 k0 q.r
 ge: ∀k,q.vo.ownBlock=some k→w.heap.size≤k∧k≠b7
 wt:q.t.wt+wtH q.x q.k≤2*t0.wt+200+wtH x0 k0
 tp:Tp u B bt
 chg:Chg w u (· =bt)
 okt:q.t.okT∧deepA q.t≤deepA t0+1∧HdT q.x∧q.k.okT∧deepA q.k≤deepA t0
def mX:MA:=⟨[],nS,[120],nS,nS⟩
theorem dropN_app: ∀(i:Nat) (t q:AT) (x:Hd) (k r:AT),t.dropN i= .cons x k r→(t.app q).dropN i= .cons x k (r.app q)
 |0,.cons _ _ _,q,x,k,r,h=>by cases h;rfl
 |0,.nil,q,x,k,r,h=>by cases h
 |i+1,.nil,q,x,k,r,h=>by cases h
 |i+1,.cons _ _ s,q,x,k,r,h=>dropN_app i s q x k r h
def lnV:List UInt8:= [112,32,104,49,32,104,50,32,108,105,32,116,100,32,116,97,98,108,101,32,116,98,111,100,121,32,100,105,118,32,97,32,101,109,32,98,114,32,104,114,32,105,109,103]
def lnT:List (List UInt8):=wordsN [] lnV
theorem lnT_len:lnT.length=13:=by decide+kernel
theorem lnT_nm: ∀x∈lnT,x.length≤10:=by decide+kernel
theorem attrsN_app: ∀l r:List At,attrsN (l++r)=attrsN l+attrsN r
 | [],r=>by simp [attrsN]
 |a::l,r=>by have:=attrsN_app l r;simp only [List.cons_append,attrsN,this];omega
theorem turn_body (f:Nat) (ih: ∀g,f=g+1→TurnC g):TurnC f:=by
 intro w B bt v ob t hs hT0 h hok0 hl
 have hokT:=AT.okT_of t hok0
 obtain ⟨ms,hr,_,hR⟩:=h
 have hlen:=Rows.len t ms (RowsOk.rows t ms hR)
 obtain ⟨A,c,rfl,hc⟩:=hr.form
 have hlw:=len_wt t
 have hbtlt:=hT0.lt
 have hbtge:=hT0.ge
 refine zCz 97 Tryz.func13 ?_
 refine zz ?_
 refine z_bs0 (want_L rfl) (by decide) (fun y1 b1 hN1=> ?_)
 have hE1:Own y1 43 5 (.slice (some ⟨b1,0,none⟩) 0 0) 0 []:=Own.empty hN1
 refine zP rfl ?_
 refine z_appendO (by rfl) (by decide) (want_L rfl) (by decide) rfl rfl hE1 (hr.no hN1.chg) (by omega) (by omega) (fun vo y2 hO2 hX2 hr2=> ?_)
 have hX:Chg w y2 No:=hN1.chg.trans hX2 (fun k hk he=>by simp only [Value.ownBlock,Option.some.injEq] at he;have:=hN1.at_;omega)
 have hge: ∀k,vo.ownBlock=some k→w.heap.size≤k:=fun k hk=>by
  rcases hr2 with e1|⟨q,e1,e2⟩
  ·rw [e1] at hk;simp only [Value.ownBlock,Option.some.injEq] at hk;have:=hN1.at_;omega
  ·rw [hk] at e1;cases e1;have:=hN1.chg.size;omega
 rw [List.nil_append,Nat.zero_add] at hO2
 obtain ⟨Ao,co,hvo,hco⟩:=hO2.rd.form
 subst hvo
 have hR2:=RowsOk.chg hX (fun _ _ _ _=>id) (fun _ _ _=>id) t ms hR
 have hT2:=hT0.no hX
 by_cases h0:ms.length=0
 ·refine zz ?_
  refine z_buildE #[.string (bs nLi),nS,.string (bs []),nS,nS] (want_L rfl) (by decide) rfl (by kernel_rfl) ?_
  refine z_bsE (encM [mE nLi nS]) (want_L rfl) (by decide) rfl (by decide) (by decide) (by kernel_rfl) (fun y3 b3 hN3=> ?_)
  have ht3:TreeAt true y3 (.slice (some ⟨b3,0,none⟩) 1 1) (aN nLi .nil):=tree_new hN3 (rows_cons (nm:=nLi) (tx:= []) (AttrS.nil _) TreeAt.nil rows_nil)
  have hw3:(aN nLi .nil).wt≤200:=by decide
  have hok3:TreeOk y3 (fun b=>ob b∨w.heap.size≤b) (.slice (some ⟨b3,0,none⟩) 1 1) (aN nLi .nil):=⟨[mE nLi nS],RdS.art (x:=⟨nLi,[],[]⟩) (m:=mE nLi nS) ⟨rfl,AtS.nil _,rfl,isSl_nil⟩ (TreeOk.nil (o:=fun _=>True)) hN3,fun _ b hb=>by simp only [Value.ownBlock,Option.some.injEq] at hb;subst hb;exact .inr (by have:=hX.size;have:=hN3.at_;omega),mE nLi nS,[],rfl,⟨rfl,AtS.nil _,rfl,isSl_nil⟩,⟨[],RdS.nil,fun h=>absurd h (Nat.lt_irrefl 0),rfl⟩,rfl⟩
  refine zz ?_
  exact zk_ret1 (.inr rfl) rfl rfl ⟨_,_,rfl,hok3,by omega,hT2.no hN3.chg,(hX.no hN3.chg).mono (fun _ _ h=>h.elim),⟨⟨⟨by decide,by decide,by decide⟩,by decide⟩,trivial,trivial⟩,by show 1≤_;omega⟩
 refine zz ?_
 refine zCl rfl (next_calls hT2 ms.length (by omega) (by omega) rfl) ?_
 rintro _ y3 ⟨⟨i,hi,rfl⟩,hT3,hX3⟩
 refine ⟨_,rfl,?_⟩
 have hO3:Own y3 43 5 (.slice Ao ms.length co) ms.length (encM ms):=hO2.chg hX3 (fun k hk he=>by obtain ⟨cs,hb⟩:=hT2.blk;exact hO2.ne hk hb (by decide) he)
 obtain ⟨cbt,hbbt⟩:=hT2.blk
 have hR3:RowsOk y3 (fun b=>(Value.slice Ao ms.length co).ownBlock≠some b∧ob b∧b<w.heap.size) t ms:=RowsOk.chg hX3 (fun b cs hb _ he=>hb.ne hbbt (by decide) he) (fun b cs hb he=>hb.ne hbbt (by decide) he) t ms
  (RowsOk.chg hX (fun _ _ _ _=>id) (fun _ _ _=>id) t ms (RowsOk.mono (fun b hb ho=>⟨fun he=>by have:=hge b he;omega,ho,hb⟩) t ms hR))
 have hX03:Chg w y3 (· =bt):=(hX.mono (S':=(· =bt)) (fun _ _ h=>h.elim)).trans hX3 (fun _ _ h=>h)
 obtain ⟨b',o,c',x,k,r,A',F,K,e1,hv,hN,hA,hF,hK⟩:=rowOk_at hO3.rd hR3 i (by omega)
 rw [←hlen] at hv
 cases hv
 obtain rfl:=own_zero hO3
 have hwx:=wt_at e1
 obtain ⟨hxo,hko⟩:=ok_at i t x k r hok0 e1
 have hdk:=deep_at i t x k r e1
 have hxT:=HdT_of hxo
 have hkT:=AT.okT_of k hko
 have hd:=e1
 obtain ⟨A2,c2,rfl,_⟩:=hA.form
 obtain ⟨A3,m3,c3,rfl⟩:=hF
 obtain ⟨A4,c4,rfl,_⟩:=hK.form
 refine zz ?_
 refine z_loadA (by rfl) (want_L rfl) (by decide) rfl (hN.agg (by omega)) ?_
 refine zAl (fun y4 b7 hN4=> ?_)
 have hb74:Blk y4 b7 43 [.string ⟨#[]⟩,nS,.string ⟨#[]⟩,nS,nS]:=hN4.blk
 refine z_store (want_L rfl) rfl rfl rfl (by assumption) (by first|exact Nat.le_refl _|simp [Value.cells]) (by simp [Value.cells,Value.oneCell']) (fun y5 hU5=> ?_)
 have hb75:Blk y5 b7 43 [.string (bs x.name),.slice A2 x.attrs.length c2,.string (bs x.text),.slice A3 m3 c3,.slice A4 k.len c4]:=hU5.blk
 refine zz ?_
 have hX5:Chg y3 y5 No:=hN4.chg.upd hU5 (hN4.ge (Chg.refl _ No))
 have hb7ge:y3.heap.size≤b7:=hN4.ge (Chg.refl _ No)
 have hT5:=hT3.no hX5
 refine zCl rfl (next_calls hT5 12 (by decide) (by decide) rfl) ?_
 rintro _ y6 ⟨⟨kk,hkk,rfl⟩,hT6,hX6⟩
 refine ⟨_,rfl,?_⟩
 have hb76:=keepT hT5 hX6 _ _ _ (by decide) hb75
 have hX36:Chg y3 y6 (· =bt):=(hX5.mono (S':=(· =bt)) (fun _ _ h=>h.elim)).trans hX6 (fun _ _ h=>h)
 refine zN (zK ?_)
 refine zc_midTX (ι:=TM) (fun q u=>TMid ob w u B bt b7 i x k t q) (fun q=> [(1,.pointer (some ⟨bt,0,none⟩)),(5,q.vo),(6,.int .i64 i),(7,.pointer (some ⟨b7,0,none⟩))]) ?_ ?_
 rotate_left
 ·rintro q u hM
  obtain ⟨qx,qk,qA,qF,qK,qvo,qms,qt,qr⟩:=q
  obtain ⟨hB,hqA,hqF,hqK,hqO,hqR,hat,hqge,hwt,hTu,hCu,hok1,hok2,hok3,hok4,hok5⟩:=hM
  dsimp only at hB hqA hqF hqK hqO hqR hat hqge hwt hTu hCu hok1 hok2 hok3 hok4 hok5 ⊢
  have hil:=drop_some i qt x k qr hat
  have hql:=Rows.len qt qms (RowsOk.rows qt qms hqR)
  obtain ⟨qA1,qc1,rfl,_⟩:=hqA.form
  obtain ⟨qF1,qm1,qf1,rfl⟩:=hqF
  obtain ⟨qK1,qk1,rfl,_⟩:=hqK.form
  obtain ⟨bo,cq,rfl⟩: ∃bo cq,qvo= .slice (some ⟨bo,0,none⟩) qms.length cq:=by
   rcases hqO.cases.2 with ⟨_,h0',_⟩|⟨b2,cap,junk,hv2,_⟩
   ·omega
   ·exact ⟨b2,cap,hv2⟩
  obtain ⟨cells,hbo,hfit,hup⟩:=own_setM hqO i (by omega) ⟨qx.name,.slice qA1 qx.attrs.length qc1,qx.text,.slice qF1 qm1 qf1,.slice qK1 qk.len qk1⟩ (by simp [MA.cells,Value.oneCell'])
  have hgo:=hqge bo rfl
  refine zz ?_
  refine z_store (want_L rfl) rfl rfl (by rfl) hbo (by omega) (by simp [Value.cells,Value.oneCell']) (fun u2 hU2=> ?_)
  have e0:0+((i:Int)).toNat*5=i*5:=by omega
  rw [e0] at hU2
  have hO2:=hup u2 hU2
  have hne: ∀b' cs,Blk u b' 43 cs→((Value.slice (some ⟨bo,0,none⟩) qms.length cq).ownBlock≠some b'∧(ob b'∨w.heap.size≤b'))→ ¬b'=bo:=fun b' cs _ hq he=>hq.1 (by rw [he];rfl)
  have h33: ∀b' cs,Blk u b' 45 cs→ ¬b'=bo:=fun b' cs hb' he=>hb'.ne hbo (by decide) he
  have hR2':=RowsOk.chg hU2.chg hne h33 _ _ hqR
  have hK2:=hqK.chg hU2.chg hne h33
  have hA2:AtS u2 (.slice qA1 qx.attrs.length qc1) qx.attrs:=RdS.chg hqA hU2.chg (fun b' cs hb' he=>h33 b' cs hb' he)
  have hRs:=RowsOk.set i qt qms ⟨qx.name,.slice qA1 qx.attrs.length qc1,qx.text,.slice qF1 qm1 qf1,.slice qK1 qk.len qk1⟩ qx qk hR2' hil ⟨rfl,hA2,rfl,⟨_,_,_,rfl⟩⟩ hK2
  have hwt2:=AT.setN_wt i qt qx qk x k qr hat
  unfold wtH at hwt
  refine zz ?_
  exact zk_ret1 (.inr rfl) rfl rfl ⟨_,qt.setN i qx qk,rfl,⟨qms.set i _,by rw [List.length_set];exact hO2.rd,fun _ b hb=>by simp only [Value.ownBlock,Option.some.injEq] at hb;subst hb;exact .inr hgo.1,RowsOk.mono (fun b _ hb=>hb.2) _ _ hRs⟩,by omega,hTu.oth hU2.chg (fun he=>by obtain ⟨cs,hb⟩:=hTu.blk;exact hb.ne hbo (by decide) he) (fun k _ hk=>by omega),hCu.trans hU2.chg (fun k hk he=>by omega),AT.okT_set i qt qx qk hok1 hok3 hok4,by have:=deep_set i qt qx qk;omega⟩
 have hX06:Chg w y6 (· =bt):=hX03.trans hX36 (fun _ _ h=>h)
 have hs06:=hX06.size
 have hs03:=hX03.size
 have hA6:AtS y6 (.slice A2 x.attrs.length c2) x.attrs:=AtS.tp (RdS.no hA hX5) hT5 hX6
 have hK6:=((hK.no hX5).tp hT5 hX6)
 have hO5:=hO3.no hX5
 have hO6:Own y6 43 5 (.slice (some ⟨b',0,none⟩) ms.length co) ms.length (encM ms):=hO5.chg hX6 (fun k hk he=>by obtain ⟨cs,hb⟩:=hT5.blk;exact hO5.ne hk hb (by decide) he)
 have hR6:RowsOk y6 (fun b=>(Value.slice (some ⟨b',0,none⟩) ms.length co).ownBlock≠some b∧ob b∧b<w.heap.size) t ms:=RowsOk.chg hX6 (fun b cs hb _ he=>by obtain ⟨cs2,hb2⟩:=hT5.blk;exact hb.ne hb2 (by decide) he) (fun b cs hb he=>by obtain ⟨cs2,hb2⟩:=hT5.blk;exact hb.ne hb2 (by decide) he) t ms
  (RowsOk.chg hX5 (fun _ _ _ _=>id) (fun _ _ _=>id) t ms hR3)
 have hgo:w.heap.size≤b'∧b'≠b7:=⟨hge b' rfl,by have:=hO3.lt (k:=b') rfl;omega⟩
 have hge6: ∀k,(Value.slice (some ⟨b',0,none⟩) ms.length co).ownBlock=some k→w.heap.size≤k∧k≠b7:=fun k hk=>by simp only [Value.ownBlock,Option.some.injEq] at hk;subst hk;exact hgo
 have hb'6:b'<y6.heap.size:=hO6.lt rfl
 have hb7lt:b7<y6.heap.size:=hb76.lt
 have hfin: ∀{u:World},Chg y6 u (fun z=>z=bt∨z=b7)→Own u 43 5 (.slice (some ⟨b',0,none⟩) ms.length co) ms.length (encM ms)∧
   RowsOk u (fun b=>(Value.slice (some ⟨b',0,none⟩) ms.length co).ownBlock≠some b∧ob b∧b<w.heap.size) t ms∧
   TreeOk u (fun b=>(Value.slice (some ⟨b',0,none⟩) ms.length co).ownBlock≠some b∧ob b∧b<w.heap.size) (.slice A4 k.len c4) k∧AtS u (.slice A2 x.attrs.length c2) x.attrs∧Chg w u (· =bt):=fun {u} hS=>by
  obtain ⟨cs2,hb2⟩:=hT6.blk
  have e8: ∀b cells,Blk y6 b 43 cells→((Value.slice (some ⟨b',0,none⟩) ms.length co).ownBlock≠some b∧ob b∧b<w.heap.size)→ ¬(b=bt∨b=b7):=fun b cells hb ho he=>by
   rcases he with he|he
   ·exact hb.ne hb2 (by decide) he
   ·have:=ho.2.2;omega
  have e3: ∀b cells,Blk y6 b 45 cells→ ¬(b=bt∨b=b7):=fun b cells hb he=>by
   rcases he with he|he
   ·exact hb.ne hb2 (by decide) he
   ·exact hb.ne hb76 (by decide) he
  refine ⟨hO6.chg hS (fun k hk he=> ?_),RowsOk.chg hS e8 e3 t ms hR6,hK6.chg hS e8 e3,RdS.chgAt hA6 hS (fun _ b cells _ hb=>e3 b cells hb),hX06.trans hS (fun z hz he=> ?_)⟩
  ·rcases he with he|he
   ·exact hO6.ne hk hb2 (by decide) he
   ·exact (hge6 k hk).2 he
  ·rcases he with he|he
   ·exact he
   ·omega
 have hweakR: ∀{u:World},RowsOk u (fun b=>(Value.slice (some ⟨b',0,none⟩) ms.length co).ownBlock≠some b∧ob b∧b<w.heap.size) t ms→RowsOk u (fun b=>(Value.slice (some ⟨b',0,none⟩) ms.length co).ownBlock≠some b∧(ob b∨w.heap.size≤b)) t ms:=fun {u} h=>RowsOk.mono (fun b _ h=>⟨h.1,.inl h.2.1⟩) t ms h
 have hweakK: ∀{u:World} {v:Value} {k:AT},TreeOk u (fun b=>(Value.slice (some ⟨b',0,none⟩) ms.length co).ownBlock≠some b∧ob b∧b<w.heap.size) v k→TreeOk u (fun b=>(Value.slice (some ⟨b',0,none⟩) ms.length co).ownBlock≠some b∧(ob b∨w.heap.size≤b)) v k:=fun {u v k} h=>h.mono (fun b _ h=>⟨h.1,.inl h.2.1⟩)
 have hno: ∀{u1 u:World},Chg u1 u No→Chg u1 u (fun z=>z=bt∨z=b7):=fun h=>h.mono (fun _ _ h=>h.elim)
 have h7w: ∀{u1 u:World},Chg u1 u (· =b7)→Chg u1 u (fun z=>z=bt∨z=b7):=fun h=>h.mono (fun _ _ h=> .inr h)
 have htw: ∀{u1 u:World},Chg u1 u (· =bt)→Chg u1 u (fun z=>z=bt∨z=b7):=fun h=>h.mono (fun _ _ h=> .inl h)
 have hjoin: ∀{u1 u2 u:World},Chg u1 u2 (fun z=>z=bt∨z=b7)→Chg u2 u (fun z=>z=bt∨z=b7)→Chg u1 u (fun z=>z=bt∨z=b7):=fun h h'=>h.trans h' (fun _ _ h=>h)
 have htp7: ∀{u1 u2:World},Tp u1 B bt→Chg u1 u2 (· =b7)→Tp u2 B bt:=fun h h'=>h.oth h' (fun he=>by omega) (fun k _ hk=>by omega)
 have hl6:x.attrs.length≤300000000000:=by have:=attrs_cnt x.attrs;unfold wtH at hwx;omega
 have hkl:k.len≤300000000000:=by have:=len_wt k;unfold wtH at hwx;omega
 have hml:ms.length≤300000000000:=by omega
 have hxt:x.text.length≤300000000000:=by unfold wtH at hwx;omega
 by_cases hq0:kk=0
 ·subst hq0
  refine zz ?_
  refine zCl rfl (wordsR_calls (l:=lnV) (by decide)) ?_
  rintro _ u1 ⟨vn,rfl,hn1,hCb⟩
  refine ⟨_,rfl,?_⟩
  rw [show wordsN [] lnV=lnT from rfl,lnT_len,cellsS_strs] at hn1
  have hTb:=hT6.no hCb
  obtain ⟨bn,on,cn,hvn,_,_⟩:=RdS.some hn1.rd (by omega)
  subst hvn
  refine zP rfl ?_
  refine zCl rfl (next_calls hTb 13 (by decide) (by decide) rfl) ?_
  rintro _ u2 ⟨⟨j,hj,rfl⟩,hTc,hCc⟩
  refine ⟨_,rfl,?_⟩
  have hn3:=RdS.tp hn1.rd hTb hCc (by decide)
  obtain ⟨bn',on',cn',hvn,_,hcn⟩:=RdS.some hn3 (by omega)
  cases hvn
  have hcj:=hcn j _ (strs_get lnT j (by rw [lnT_len];exact hj))
  have hnm:=lnT_nm _ (getD_mem lnT j (by rw [lnT_len];exact hj))
  generalize lnT.getD j []=nm at hcj hnm
  have hb7u:=keepT hTb hCc _ _ _ (by decide) (hb76.no hCb)
  refine zIa rfl rfl (zL1 rfl (cell_at hcj (by omega)) (zfa rfl ?_))
  refine z_store (want_L rfl) rfl rfl rfl (by assumption) (by first|exact Nat.le_refl _|simp [Value.cells]) (by simp [Value.cells,Value.oneCell']) (fun u3 hU3=> ?_)
  have hb7v:Blk u3 b7 43 [.string (bs nm),.slice A2 x.attrs.length c2,.string (bs x.text),.slice A3 m3 c3,.slice A4 k.len c4]:=hU3.blk
  obtain ⟨f1,f2,f3,f4,f5⟩:=hfin (hjoin (hno hCb) (hjoin (htw hCc) (h7w hU3.chg)))
  refine zN (zM ?_)
  exact zk_midX ⟨⟨nm,x.attrs,x.text⟩,k,_,_,_,_,ms,t,r⟩ ⟨hb7v,f4,⟨_,_,_,rfl⟩,hweakK f3,f1,hweakR f2,hd,hge6,by simp only [wtH] at hwx ⊢;omega,htp7 hTc hU3.chg,f5,⟨hokT,by dsimp only;omega,⟨hxT.1,hxT.2⟩,hkT,by dsimp only;omega⟩⟩ ⟨rfl,rfl,rfl,rfl,trivial⟩
 by_cases hq1:kk=1
 ·subst hq1
  refine zz ?_
  refine z_store (want_L rfl) rfl rfl rfl (by assumption) (by first|exact Nat.le_refl _|simp [Value.cells]) (by simp [Value.cells,Value.oneCell']) (fun u3 hU3=> ?_)
  have hb7v:Blk u3 b7 43 [.string (bs x.name),.slice A2 x.attrs.length c2,.string (bs x.text),.slice A3 m3 c3,nS]:=hU3.blk
  obtain ⟨f1,f2,f3,f4,f5⟩:=hfin (h7w hU3.chg)
  refine zN (zM ?_)
  exact zk_midX ⟨x,.nil,_,_,_,_,ms,t,r⟩ ⟨hb7v,f4,⟨_,_,_,rfl⟩,TreeOk.nil,f1,hweakR f2,hd,hge6,by simp only [wtH,AT.wt] at hwx ⊢;omega,htp7 hT6 hU3.chg,f5,⟨hokT,by dsimp only;omega,hxT,trivial,Nat.zero_le _⟩⟩ ⟨rfl,rfl,rfl,rfl,trivial⟩
 by_cases hq2:kk=2
 ·subst hq2
  refine zz ?_
  refine z_store (want_L rfl) rfl rfl rfl (by assumption) (by first|exact Nat.le_refl _|simp [Value.cells]) (by simp [Value.cells,Value.oneCell']) (fun u3 hU3=> ?_)
  have hb7v:Blk u3 b7 43 [.string (bs x.name),.slice A2 x.attrs.length c2,.string (bs (x.text++ [0])),.slice A3 m3 c3,.slice A4 k.len c4]:=hU3.blk
  obtain ⟨f1,f2,f3,f4,f5⟩:=hfin (h7w hU3.chg)
  refine zN (zM ?_)
  exact zk_midX ⟨⟨x.name,x.attrs,x.text++ [0]⟩,k,_,_,_,_,ms,t,r⟩ ⟨hb7v,f4,⟨_,_,_,rfl⟩,hweakK f3,f1,hweakR f2,hd,hge6,by simp only [wtH,List.length_append,List.length_cons,List.length_nil] at hwx ⊢;omega,htp7 hT6 hU3.chg,f5,⟨hokT,by dsimp only;omega,⟨hxT.1,by have:=tx_len _ hxo.2.2.2;rw [List.length_append];show _+1≤20;omega⟩,hkT,by dsimp only;omega⟩⟩ ⟨rfl,rfl,rfl,rfl,trivial⟩
 by_cases hq3:kk=3
 ·subst hq3
  refine zz ?_
  refine z_bs0 (want_L rfl) (by decide) (fun u1 c1 hM1=> ?_)
  have hE2:Own u1 45 2 (.slice (some ⟨c1,0,none⟩) 0 0) 0 []:=Own.empty hM1
  have hb71:=hb76.no hM1.chg
  refine zz ?_
  refine z_appendO (by rfl) (by decide) (want_L rfl) (by decide) rfl rfl hE2 (RdS.no hA6 hM1.chg) (by omega) (by omega) (fun va u2 hOa hXa hra=> ?_)
  have hX2':Chg y6 u2 No:=hM1.chg.trans hXa (fun k hk he=>by simp only [Value.ownBlock,Option.some.injEq] at he;have:=hM1.at_;omega)
  have hb72:=hb76.no hX2'
  rw [List.nil_append,Nat.zero_add] at hOa
  refine z_buildE #[.string (bs [111,110,99,108,105,99,107]),.string (bs [120])] (want_L rfl) (by decide) rfl (by kernel_rfl) ?_
  refine z_bsE (encA [([111,110,99,108,105,99,107],[120])]) (want_L rfl) (by decide) rfl (by decide) (by decide) (by kernel_rfl) (fun u3 c3' hM3=> ?_)
  have hr3:RdS u3 45 2 (.slice (some ⟨c3',0,none⟩) 1 1) 1 (encA [([111,110,99,108,105,99,107],[120])]):=RdS.new hM3 rfl (encA_one _)
  have hgea: ∀k,va.ownBlock=some k→y6.heap.size≤k:=fun k hk=>by
   rcases hra with e1|⟨q,e1,e2⟩
   ·rw [e1] at hk;simp only [Value.ownBlock,Option.some.injEq] at hk;have:=hM1.at_;omega
   ·rw [hk] at e1;cases e1;have:=hM1.chg.size;omega
  refine z_appendO (by rfl) (by decide) (want_L rfl) (by decide) rfl rfl (hOa.no hM3.chg) hr3 (by omega) (by omega) (fun vb u4 hOb hXb hrb=> ?_)
  have hX4':Chg y6 u4 No:=(hX2'.no hM3.chg).trans hXb (fun k hk he=>by have:=hgea k he;omega)
  have hb74':=hb76.no hX4'
  have hOb':Own u4 45 2 vb (x.attrs++ [([111,110,99,108,105,99,107],[120])]).length (encA (x.attrs++ [([111,110,99,108,105,99,107],[120])])):=by rw [List.length_append,encA_app];exact hOb
  obtain ⟨Ab,cb,hvb,_⟩:=hOb'.rd.form
  subst hvb
  refine zfa rfl ?_
  refine z_store (want_L rfl) rfl rfl rfl (by assumption) (by first|exact Nat.le_refl _|simp [Value.cells]) (by simp [Value.cells,Value.oneCell']) (fun u5 hU5'=> ?_)
  have hb7v:Blk u5 b7 43 [.string (bs x.name),.slice Ab (x.attrs++ [([111,110,99,108,105,99,107],[120])]).length cb,.string (bs x.text),.slice A3 m3 c3,.slice A4 k.len c4]:=hU5'.blk
  obtain ⟨f1,f2,f3,f4,f5⟩:=hfin (hjoin (hno hX4') (h7w hU5'.chg))
  have hOc:=hOb'.upd hU5' (by decide)
  refine zN (zM ?_)
  exact zk_midX ⟨⟨x.name,x.attrs++ [([111,110,99,108,105,99,107],[120])],x.text⟩,k,_,_,_,_,ms,t,r⟩ ⟨hb7v,hOc.rd,⟨_,_,_,rfl⟩,hweakK f3,f1,hweakR f2,hd,hge6,by simp only [wtH,attrsN_app,attrsN,List.length_cons,List.length_nil] at hwx ⊢;omega,htp7 (hT6.no hX4') hU5'.chg,f5,⟨hokT,by dsimp only;omega,⟨AtsT_push hxo.2.1 hxo.2.2.1,hxT.2⟩,hkT,by dsimp only;omega⟩⟩ ⟨rfl,rfl,rfl,rfl,trivial⟩
 by_cases hq4:kk=4
 ·subst hq4
  obtain ⟨mk,hrk,hok,hRk⟩:=hK6
  have hlk:=Rows.len k mk (RowsOk.rows k mk hRk)
  refine zz ?_
  refine z_bs0 (want_L rfl) (by decide) (fun u1 c1 hM1=> ?_)
  have hE2:Own u1 43 5 (.slice (some ⟨c1,0,none⟩) 0 0) 0 []:=Own.empty hM1
  have hb71:=hb76.no hM1.chg
  refine zz ?_
  refine z_appendO (by rfl) (by decide) (want_L rfl) (by decide) rfl rfl hE2 (RdS.no hrk hM1.chg) (by omega) (by omega) (fun va u2 hOa hXa hra=> ?_)
  have hX2':Chg y6 u2 No:=hM1.chg.trans hXa (fun k hk he=>by simp only [Value.ownBlock,Option.some.injEq] at he;have:=hM1.at_;omega)
  rw [List.nil_append,Nat.zero_add] at hOa
  refine z_buildE #[.string (bs []),nS,.string (bs [120]),nS,nS] (want_L rfl) (by decide) rfl (by kernel_rfl) ?_
  refine z_bsE (encM [mX]) (want_L rfl) (by decide) rfl (by decide) (by decide) (by kernel_rfl) (fun u3 c3' hM3=> ?_)
  have hr3:RdS u3 43 5 (.slice (some ⟨c3',0,none⟩) 1 1) 1 (encM [mX]):=RdS.art (x:=⟨[],[],[120]⟩) ⟨rfl,AtS.nil _,rfl,isSl_nil⟩ (TreeOk.nil (o:=fun _=>True)) hM3
  have hgea: ∀k,va.ownBlock=some k→y6.heap.size≤k:=fun k hk=>by
   rcases hra with e1|⟨q,e1,e2⟩
   ·rw [e1] at hk;simp only [Value.ownBlock,Option.some.injEq] at hk;have:=hM1.at_;omega
   ·rw [hk] at e1;cases e1;have:=hM1.chg.size;omega
  refine z_appendO (by rfl) (by decide) (want_L rfl) (by decide) rfl rfl (hOa.no hM3.chg) hr3 (by omega) (by omega) (fun vb u4 hOb hXb hrb=> ?_)
  have hX4':Chg y6 u4 No:=(hX2'.no hM3.chg).trans hXb (fun k hk he=>by have:=hgea k he;omega)
  have hb74':=hb76.no hX4'
  have hgeb: ∀k,vb.ownBlock=some k→y6.heap.size≤k:=fun k hk=>by
   rcases hrb with e1|⟨q,e1,e2⟩
   ·exact hgea k (e1▸hk)
   ·rw [hk] at e1;cases e1;have:=(hX2'.no hM3.chg).size;omega
  have hOb':Own u4 43 5 vb (mk++ [mX]).length (encM (mk++ [mX])):=by rw [List.length_append,encM_app];exact hOb
  have hKn:TreeOk u4 (fun b=>(Value.slice (some ⟨b',0,none⟩) ms.length co).ownBlock≠some b∧((ob b∧b<w.heap.size)∨y6.heap.size≤b)) vb (k.snoc ⟨[],[],[120]⟩ .nil):=
   ⟨mk++ [mX],hOb'.rd,fun _ b hb=>⟨fun he=>by simp only [Value.ownBlock,Option.some.injEq] at he;have:=hgeb b hb;omega,.inr (hgeb b hb)⟩,
    RowsOk.snoc ⟨rfl,AtS.nil _,rfl,isSl_nil⟩ TreeOk.nil k mk (RowsOk.mono (fun b _ h=>⟨h.1,.inl h.2⟩) k mk (RowsOk.chg hX4' (fun _ _ _ _=>id) (fun _ _ _=>id) k mk hRk))⟩
  have hwk:(k.snoc ⟨[],[],[120]⟩ .nil).wt=k.wt+16:=by unfold AT.snoc;rw [AT.app_wt];rfl
  obtain ⟨Ab,cb,hvb,_⟩:=hKn.form
  subst hvb
  refine zfa rfl ?_
  refine z_store (want_L rfl) rfl rfl rfl (by assumption) (by first|exact Nat.le_refl _|simp [Value.cells]) (by simp [Value.cells,Value.oneCell']) (fun u5 hU5'=> ?_)
  have hb7v:Blk u5 b7 43 [.string (bs x.name),.slice A2 x.attrs.length c2,.string (bs x.text),.slice A3 m3 c3,.slice Ab (k.snoc ⟨[],[],[120]⟩ .nil).len cb]:=hU5'.blk
  obtain ⟨f1,f2,f3,f4,f5⟩:=hfin (hjoin (hno hX4') (h7w hU5'.chg))
  have hKn5:=(hKn.chg hU5'.chg (fun b cells hb ho he=>by have:=ho.2;omega) (fun b cells hb he=>hb.ne hb74' (by decide) he)).mono (o':=fun b=>(Value.slice (some ⟨b',0,none⟩) ms.length co).ownBlock≠some b∧(ob b∨w.heap.size≤b)) (fun b _ h=>⟨h.1,h.2.elim (fun h=> .inl h.1) (fun h=> .inr (by omega))⟩)
  refine zN (zM ?_)
  exact zk_midX ⟨x,k.snoc ⟨[],[],[120]⟩ .nil,_,_,_,_,ms,t,r⟩ ⟨hb7v,f4,⟨_,_,_,rfl⟩,hKn5,f1,hweakR f2,hd,hge6,by simp only [wtH,hwk] at hwx ⊢;omega,htp7 (hT6.no hX4') hU5'.chg,f5,⟨hokT,by dsimp only;omega,hxT,AT.okT_app k _ hkT ⟨⟨⟨by decide,by decide,fun a ha=>(by cases ha)⟩,by decide⟩,trivial,trivial⟩,by show deepA (k.app _)≤_;rw [deep_app];show max _ 1≤_;omega⟩⟩ ⟨rfl,rfl,rfl,rfl,trivial⟩
 by_cases hq5:kk=5
 ·subst hq5
  refine zz ?_
  refine z_bsE (encM [⟨x.name,.slice A2 x.attrs.length c2,x.text,.slice A3 m3 c3,.slice A4 k.len c4⟩]) (want_L rfl) (by decide) rfl (by decide) (by simp [encM,Value.oneCell']) (by kernel_rfl) (fun u1 c1 hM1=> ?_)
  have hx1:HO y6 ⟨x.name,.slice A2 x.attrs.length c2,x.text,.slice A3 m3 c3,.slice A4 k.len c4⟩ x:=⟨rfl,hA6,rfl,⟨_,_,_,rfl⟩⟩
  have hr1:=RdS.art hx1 hK6 hM1
  have hb71:=hb76.no hM1.chg
  refine z_appendO (by rfl) (by decide) (want_L rfl) (by decide) rfl rfl (hO6.no hM1.chg) hr1 (by omega) (by omega) (fun va u2 hOa hXa hra=> ?_)
  have hgea: ∀k,va.ownBlock=some k→w.heap.size≤k∧k≠b7:=fun k hk=>by
   rcases hra with e1|⟨q,e1,e2⟩
   ·exact hge6 k (e1▸hk)
   ·rw [hk] at e1;cases e1;have:=hM1.chg.size;omega
  have hO61:=hO6.no hM1.chg
  have hb72:Blk u2 b7 43 [.string (bs x.name),.slice A2 x.attrs.length c2,.string (bs x.text),.slice A3 m3 c3,.slice A4 k.len c4]:=hb71.chg hXa (fun he=>(hge6 _ he).2 rfl)
  have hRn:=RowsOk.chg hXa (fun b cs hb ho=>ho.1) (fun b cs hb he=>hO61.ne he hb (by decide) rfl) _ _ (RowsOk.chg hM1.chg (fun _ _ _ _=>id) (fun _ _ _=>id) _ _ (RowsOk.snoc hx1 hK6 t ms hR6))
  have hKn:=(hK6.no hM1.chg).chg hXa (fun b cs hb ho=>ho.1) (fun b cs hb he=>hO61.ne he hb (by decide) rfl)
  have hAn:AtS u2 (.slice A2 x.attrs.length c2) x.attrs:=RdS.chgAt (RdS.no hA6 hM1.chg) hXa (fun _ b cs _ hb he=>hO61.ne he hb (by decide) rfl)
  have hw': ∀b,((Value.slice (some ⟨b',0,none⟩) ms.length co).ownBlock≠some b∧ob b∧b<w.heap.size)→(va.ownBlock≠some b∧(ob b∨w.heap.size≤b)):=fun b h=>⟨fun he=>by have:=hgea b he;omega,.inl h.2.1⟩
  have hws:(t.snoc x k).wt=t.wt+wtH x k:=by unfold AT.snoc wtH;rw [AT.app_wt];simp only [AT.wt];omega
  have hOa':Own u2 43 5 va (ms++ [(⟨x.name,.slice A2 x.attrs.length c2,x.text,.slice A3 m3 c3,.slice A4 k.len c4⟩:MA)]).length (encM (ms++ [(⟨x.name,.slice A2 x.attrs.length c2,x.text,.slice A3 m3 c3,.slice A4 k.len c4⟩:MA)])):=by rw [List.length_append,encM_app];exact hOa
  have hTn:Tp u2 B bt:=(hT6.no hM1.chg).oth hXa (fun he=>by obtain ⟨cs,hb⟩:=(hT6.no hM1.chg).blk;exact hO61.ne he hb (by decide) rfl) (fun k _ hk=>by have:=hge6 k hk;omega)
  have hCn:Chg w u2 (· =bt):=(hX06.no hM1.chg).trans hXa (fun k hk he=>by have:=hge6 k he;omega)
  refine zz ?_
  exact zk_midX ⟨x,k,_,_,_,va,ms++ [_],t.snoc x k,r.app (.cons x k .nil)⟩ ⟨hb72,hAn,⟨_,_,_,rfl⟩,hKn.mono (fun b _ h=>hw' b h),hOa',RowsOk.mono (fun b _ h=>hw' b h) _ _ hRn,dropN_app i t _ x k r hd,hgea,by dsimp only;rw [hws];omega,hTn,hCn,⟨AT.okT_app t _ hokT ⟨hxT,hkT,trivial⟩,by show deepA (t.app _)≤_;rw [deep_app];show max _ (max (1+deepA k) 0)≤_;omega,hxT,hkT,by dsimp only;omega⟩⟩ ⟨rfl,rfl,rfl,rfl,trivial⟩
 by_cases hq6:kk=6
 ·subst hq6
  by_cases hal:x.attrs.length=0
  ·refine zz ?_
   obtain ⟨f1,f2,f3,f4,f5⟩:=hfin (hno (Chg.refl _ _))
   exact zk_midX ⟨x,k,_,_,_,_,ms,t,r⟩ ⟨hb76,f4,⟨_,_,_,rfl⟩,hweakK f3,f1,hweakR f2,hd,hge6,by dsimp only;omega,hT6,f5,⟨hokT,by dsimp only;omega,hxT,hkT,by dsimp only;omega⟩⟩ ⟨rfl,rfl,rfl,rfl,trivial⟩
  ·obtain ⟨a0,al,hxa⟩: ∃a0 al,x.attrs=a0::al:=by
    rcases hx:x.attrs with _|⟨a0,al⟩
    ·exact absurd (by rw [hx];rfl) hal
    ·exact ⟨a0,al,rfl⟩
   obtain ⟨ba,oa,ca,hva,hca',hcel⟩:=RdS.some hA6 (by omega)
   cases hva
   have hc0:=hcel 0 (.string (bs a0.1)) (by rw [hxa];rfl)
   refine zz ?_
   refine zc_draw [12] (fun w'=>Chg y6 w' No∧Blk w' b7 43 [.string (bs x.name),.slice (some ⟨ba,oa,none⟩) x.attrs.length c2,.string (bs x.text),.slice A3 m3 c3,.slice A4 k.len c4]) (.take 0 (.take 1 (.take 2 (.take 3 (.take 4 (.take 5 (.take 7 (.take 8 (.take 9 (.all1 6 (.all1 10 (.take 11 (.last 12))))))))))))) (by rfl) (by kernel_rfl) (by kernel_rfl) (fun z1 hZ1 _=>⟨?_,?_⟩)
   ·exact ⟨hZ1,hb76.no hZ1⟩
   have hb7z:=hb76.no hZ1
   refine zz ?_
   refine zRd rfl rfl (fun _ hS=>r_load1 rfl (cell_at (cell_keep hS.1 hc0) (by omega))) ?_
   refine zRd rfl rfl (fun _ hS=>r_build' (cells:= #[.string (bs a0.1),.string (bs sJv)]) rfl (by kernel_rfl)) ?_
   refine zz ?_
   refine zRd rfl rfl (fun _ hS=>r_cutFrom (k:=1) rfl rfl (by omega) (by omega)) ?_
   refine zs_bsE (encA [(a0.1,sJv)]) rfl (want_L rfl) (by decide) rfl (by decide) (by decide) (by kernel_rfl) (fun z2 c1 hM2=> ?_)
   have hX2:Chg y6 z2 No:=hZ1.no hM2.chg
   have hb72:=hb7z.no hM2.chg
   refine ⟨⟨hX2,hb72⟩,?_⟩
   have hOn:Own z2 45 2 (.slice (some ⟨c1,0,none⟩) 1 1) 1 (encA [(a0.1,sJv)]):=Own.mk' (junk:= []) rfl (Nat.le_refl _) (by decide) (by rw [List.append_nil];exact hM2.blk) rfl (encA_one _)
   have hrc:=(RdS.cut hA6 (k:=1) (by omega)).no hX2
   refine zs_appendO rfl (by rfl) (by decide) (want_L rfl) (by decide) rfl rfl hOn hrc (by omega) (by omega) (fun v3 z3 hO3' hX3' hr3'=> ?_)
   have hX3n:Chg y6 z3 No:=hX2.trans hX3' (fun k hk he=>by simp only [Value.ownBlock,Option.some.injEq] at he;have:=hM2.at_;have:=hZ1.size;omega)
   have hb73:=hb76.no hX3n
   refine ⟨⟨hX3n,hb73⟩,?_⟩
   have hO3n:Own z3 45 2 v3 ((a0.1,sJv)::al).length (encA ((a0.1,sJv)::al)):=by
    have e1:((a0.1,sJv)::al).length=1+(x.attrs.length - 1):=by rw [hxa];simp only [List.length_cons];omega
    have e2:encA ((a0.1,sJv)::al)=encA [(a0.1,sJv)]++(encA x.attrs).drop (1*2):=by rw [hxa];rfl
    rw [e1,e2];exact hO3'
   obtain ⟨Ab,cb,hvb,_⟩:=hO3n.rd.form
   subst hvb
   refine zRd rfl rfl (fun _ hS=>r_fa rfl) ?_
   refine zs_storeL rfl (want_L rfl) rfl rfl rfl (by assumption) (by first|exact Nat.le_refl _|simp [Value.cells]) (by simp [Value.cells,Value.oneCell']) (fun z4 hU4=> ?_)
   have hb7v:Blk z4 b7 43 [.string (bs x.name),.slice Ab ((a0.1,sJv)::al).length cb,.string (bs x.text),.slice A3 m3 c3,.slice A4 k.len c4]:=hU4.blk
   obtain ⟨f1,f2,f3,f4,f5⟩:=hfin (hjoin (hno hX3n) (h7w hU4.chg))
   have hOc:=hO3n.upd hU4 (by decide)
   have hjl:sJv.length=12:=rfl
   refine zM ?_
   exact zk_midX ⟨⟨x.name,(a0.1,sJv)::al,x.text⟩,k,_,_,_,_,ms,t,r⟩ ⟨hb7v,hOc.rd,⟨_,_,_,rfl⟩,hweakK f3,f1,hweakR f2,hd,hge6,by simp only [wtH,hxa,attrsN,hjl] at hwx ⊢;omega,htp7 (hT6.no hX3n) hU4.chg,f5,⟨hokT,by dsimp only;omega,⟨AtsT_head (hxa▸hxo.2.1) (hxa▸hxo.2.2.1),hxT.2⟩,hkT,by dsimp only;omega⟩⟩ ⟨rfl,rfl,rfl,rfl,trivial⟩
 have hsz:=t.drop_size i
 rw [hd] at hsz
 simp only [AT.size] at hsz
 obtain ⟨g,hg⟩: ∃g,f=g+1:=⟨f - 1,by omega⟩
 refine zz ?_
 refine zCl rfl (ih g hg k (by omega) hT6 hK6 hko (by unfold wtH at hwx;omega)) ?_
 rintro _ u1 ⟨vk,k',rfl,hk',hkw,hT7,hX7,hk1,hk1d⟩
 refine ⟨_,rfl,?_⟩
 have hb7u:=keepT hT6 hX7 _ _ _ (by decide) hb76
 obtain ⟨Ak,ck,rfl,_⟩:=hk'.form
 refine zfa rfl ?_
 refine z_store (want_L rfl) rfl rfl rfl (by assumption) (by first|exact Nat.le_refl _|simp [Value.cells]) (by simp [Value.cells,Value.oneCell']) (fun u2 hU2=> ?_)
 have hb7v:Blk u2 b7 43 [.string (bs x.name),.slice A2 x.attrs.length c2,.string (bs x.text),.slice A3 m3 c3,.slice Ak k'.len ck]:=hU2.blk
 obtain ⟨f1,f2,f3,f4,f5⟩:=hfin (hjoin (htw hX7) (h7w hU2.chg))
 have hKn:=(hk'.chg hU2.chg (fun b cells hb ho he=>by rcases ho with ho|ho<;>omega) (fun b cells hb he=>hb.ne hb7u (by decide) he)).mono (o':=fun b=>(Value.slice (some ⟨b',0,none⟩) ms.length co).ownBlock≠some b∧(ob b∨w.heap.size≤b)) (fun b _ h=>h.elim (fun h=>⟨h.1,.inl h.2.1⟩) (fun h=>⟨fun he=>by simp only [Value.ownBlock,Option.some.injEq] at he;omega,.inr (by omega)⟩))
 refine zN (zM ?_)
 exact zk_midX ⟨x,k',_,_,_,_,ms,t,r⟩ ⟨hb7v,f4,⟨_,_,_,rfl⟩,hKn,f1,hweakR f2,hd,hge6,by simp only [wtH] at hwx ⊢;omega,htp7 hT7 hU2.chg,f5,⟨hokT,by dsimp only;omega,hxT,hk1,by dsimp only;omega⟩⟩ ⟨rfl,rfl,rfl,rfl,trivial⟩
theorem turn_all: ∀f,TurnC f
 |0=>turn_body 0 (fun g h=>by omega)
 |f+1=>turn_body (f+1) (fun g h=>(show f=g by omega)▸turn_all f)
theorem turn_calls {w:World} {B bt:Nat} {v:Value} (t:AT) (hT:Tp w B bt) (h:TreeAt true w v t) (ho:t.ok) (hl:t.wt≤300000000000):
  Calls Tryz.prog 13 [v,.pointer (some ⟨bt,0,none⟩)].toArray w fun e w'=> ∃v' t',e= .returned v'∧TreeAt true w' v' t'∧t'.wt≤2*t.wt+200∧t'.okT∧deepA t'≤deepA t+1∧Tp w' B bt∧Chg w w' (· =bt):=
 (turn_all t.size t (Nat.le_refl _) hT h.ok ho hl).mono fun e w' ⟨v',t',h1,h2,h3,h4,h5,h6,h7⟩=>⟨v',t',h1,h2.at',h3,h6,h7,h4,h5⟩
end Go.Proofs.YtbcmiijollpgeaaGreat.T
namespace Go.Proofs.YtbcmiijollpgeaaGreat.V
open Go Go.Z Go.Proofs T
theorem letter_calls {w:World} (c:Nat) (hc:c<256):Calls Tryz.prog 107 [.int .u8 c].toArray w fun e w'=>(∃q:Bool,e= .returned (.bool q))∧w'=w:=
 (T.letter_calls c).mono fun e w' h=>⟨⟨_,h.1⟩,h.2⟩
theorem digit_calls {w:World} (c:Nat) (hc:c<256):Calls Tryz.prog 189 [.int .u8 c].toArray w fun e w'=>(∃q:Bool,e= .returned (.bool q)∧(q=true→48≤c∧c≤57))∧w'=w:=by
 refine zCz 9 Tryz.func189 ?_
 repeat' (first|refine za ?_|refine a_cutW rfl rfl rfl fun _ _=> ?_|refine a_catW rfl rfl fun _ _=> ?_|refine a_idxW rfl rfl fun _ _=> ?_|refine a_addW rfl rfl fun _ _=> ?_|refine a_subW rfl rfl fun _ _=> ?_|refine a_min rfl rfl fun _ _ _ _=> ?_|refine a_max rfl rfl fun _ _ _ _=> ?_|refine a_shr rfl rfl fun _ _=> ?_|refine a_and rfl rfl fun _ _=> ?_|refine a_cmp rfl rfl rfl (fun _=> ?_) fun _=> ?_|refine a_eq rfl rfl (fun _=> ?_) fun _=> ?_|refine a_ne rfl rfl (fun _=> ?_) fun _=> ?_)
 all_goals exact zk_ret1 (.inr rfl) rfl rfl ⟨⟨_,rfl,fun h=>by first|(cases h;done)|(constructor<;>omega)⟩,rfl⟩
theorem sixteen_calls {w:World} (c:Nat) (hc:c<16):Calls Tryz.prog 194 [.int .u8 c].toArray w fun e w'=>(∃s:List UInt8,e= .returned (.string (bs s))∧s.length=1)∧w'=w:=by
 refine zCz 9 Tryz.func194 ?_
 repeat' (first|refine za ?_|refine a_cutW rfl rfl rfl fun _ _=> ?_|refine a_catW rfl rfl fun _ _=> ?_|refine a_idxW rfl rfl fun _ _=> ?_|refine a_addW rfl rfl fun _ _=> ?_|refine a_subW rfl rfl fun _ _=> ?_|refine a_min rfl rfl fun _ _ _ _=> ?_|refine a_max rfl rfl fun _ _ _ _=> ?_|refine a_shr rfl rfl fun _ _=> ?_|refine a_and rfl rfl fun _ _=> ?_|refine a_cmp rfl rfl rfl (fun _=> ?_) fun _=> ?_|refine a_eq rfl rfl (fun _=> ?_) fun _=> ?_|refine a_ne rfl rfl (fun _=> ?_) fun _=> ?_)
 all_goals exact zk_ret1 (.inr rfl) rfl rfl ⟨⟨_,rfl,by omega⟩,rfl⟩
theorem web_calls {w:World} (s:List UInt8):Calls Tryz.prog 138 [.string (bs s)].toArray w fun e w'=>(∃q:Bool,e= .returned (.bool q))∧w'=w:=by
 refine zCz 9 Tryz.func138 ?_
 repeat' (first|refine za ?_|refine a_cutW rfl rfl rfl fun _ _=> ?_|refine a_catW rfl rfl fun _ _=> ?_|refine a_idxW rfl rfl fun _ _=> ?_|refine a_addW rfl rfl fun _ _=> ?_|refine a_subW rfl rfl fun _ _=> ?_|refine a_min rfl rfl fun _ _ _ _=> ?_|refine a_max rfl rfl fun _ _ _ _=> ?_|refine a_shr rfl rfl fun _ _=> ?_|refine a_and rfl rfl fun _ _=> ?_|refine a_cmp rfl rfl rfl (fun _=> ?_) fun _=> ?_|refine a_eq rfl rfl (fun _=> ?_) fun _=> ?_|refine a_ne rfl rfl (fun _=> ?_) fun _=> ?_)
 all_goals exact zk_ret1 (.inr rfl) rfl rfl ⟨⟨_,rfl⟩,rfl⟩
theorem index_calls {w:World} (l p:List UInt8) (hl:l.length≤big) (hp:p.length≤big):Calls Tryz.prog 16 [.string (bs l),.string (bs p),.int .i64 0].toArray w fun e w'=>(∃k:Int,e= .returned (.int .i64 k)∧ -1≤k∧k≤l.length∧(∀c,p= [c]→c∉l→k= -1))∧w'=w:=by
 have hbig:big=1000000000000:=rfl
 refine zCz 29 Tryz.func16 ?_
 repeat' (first|refine za ?_|refine a_cutW rfl rfl rfl fun _ _=> ?_|refine a_catW rfl rfl fun _ _=> ?_|refine a_idxW rfl rfl fun _ _=> ?_|refine a_addW rfl rfl fun _ _=> ?_|refine a_subW rfl rfl fun _ _=> ?_|refine a_min rfl rfl fun _ _ _ _=> ?_|refine a_max rfl rfl fun _ _ _ _=> ?_|refine a_shr rfl rfl fun _ _=> ?_|refine a_and rfl rfl fun _ _=> ?_|refine a_cmp rfl rfl rfl (fun _=> ?_) fun _=> ?_|refine a_eq rfl rfl (fun _=> ?_) fun _=> ?_|refine a_ne rfl rfl (fun _=> ?_) fun _=> ?_)
 refine zc_loopW (ι:=Nat) (fun i u=> [(0,.string (bs l)),(1,.string (bs p)),(7,.int .i64 (i:Nat))]) (fun i u=>i≤l.length+1∧u=w) (fun i u=>l.length+1 - i) 0 ⟨Nat.zero_le _,rfl⟩ ?_ ?_
 ·exact ⟨rfl,rfl,get_int rfl (by omega),trivial⟩
 rintro i u ⟨hi,hu⟩
 obtain rfl:=hu.symm
 by_cases hlt:i+p.length≤l.length
 ·refine zz ?_
  refine z_cutN i (i+p.length) (want_L rfl) (by decide) rfl rfl rfl rfl (by omega) (by omega) (by omega) ?_
  refine zP rfl ?_
  refine zEq rfl rfl (fun hc=> ?_) (fun hc=> ?_)
  ·refine zz ?_
   refine zk_ret1 (.inr rfl) rfl rfl ⟨⟨_,rfl,by omega,by omega,fun c hp1 hn=>absurd (List.mem_of_mem_drop (List.mem_of_mem_take (show c∈(l.drop i).take (i+p.length - i) by rw [hc,hp1];simp))) hn⟩,rfl⟩
  ·refine zz ?_
   exact zk_loopW (i+1) ⟨by omega,rfl⟩ (by omega) ⟨rfl,rfl,get_int rfl (by omega),trivial⟩
 ·refine zz ?_
  exact zk_ret1 (.inr rfl) rfl rfl ⟨⟨_,rfl,by omega,by omega,fun _ _ _=>rfl⟩,rfl⟩
theorem digits_calls {w:World} (l:List UInt8) (hl:l.length≤big):Calls Tryz.prog 191 [.string (bs l)].toArray w fun e w'=>(∃q:Bool,e= .returned (.bool q))∧w'=w:=by
 have hbig:big=1000000000000:=rfl
 refine zCz 17 Tryz.func191 ?_
 repeat' (first|refine za ?_|refine a_cutW rfl rfl rfl fun _ _=> ?_|refine a_catW rfl rfl fun _ _=> ?_|refine a_idxW rfl rfl fun _ _=> ?_|refine a_addW rfl rfl fun _ _=> ?_|refine a_subW rfl rfl fun _ _=> ?_|refine a_min rfl rfl fun _ _ _ _=> ?_|refine a_max rfl rfl fun _ _ _ _=> ?_|refine a_shr rfl rfl fun _ _=> ?_|refine a_and rfl rfl fun _ _=> ?_|refine a_cmp rfl rfl rfl (fun _=> ?_) fun _=> ?_|refine a_eq rfl rfl (fun _=> ?_) fun _=> ?_|refine a_ne rfl rfl (fun _=> ?_) fun _=> ?_)
 refine zc_loopW (ι:=Nat) (fun i u=> [(0,.string (bs l)),(3,.int .i64 (i:Nat))]) (fun i u=>i≤l.length∧u=w) (fun i u=>l.length - i) 0 ⟨Nat.zero_le _,rfl⟩ ⟨rfl,rfl,trivial⟩ ?_
 rintro i u ⟨hi,hu⟩
 obtain rfl:=hu.symm
 by_cases hlt:i<l.length
 ·repeat' (first|refine za ?_|refine a_cutW rfl rfl rfl fun _ _=> ?_|refine a_catW rfl rfl fun _ _=> ?_|refine a_idxW rfl rfl fun _ _=> ?_|refine a_addW rfl rfl fun _ _=> ?_|refine a_subW rfl rfl fun _ _=> ?_|refine a_min rfl rfl fun _ _ _ _=> ?_|refine a_max rfl rfl fun _ _ _ _=> ?_|refine a_shr rfl rfl fun _ _=> ?_|refine a_and rfl rfl fun _ _=> ?_|refine a_cmp rfl rfl rfl (fun _=> ?_) fun _=> ?_|refine a_eq rfl rfl (fun _=> ?_) fun _=> ?_|refine a_ne rfl rfl (fun _=> ?_) fun _=> ?_)
  refine zCl rfl (digit_calls _ (by assumption)) ?_
  rintro _ v ⟨⟨q,rfl,_⟩,hv⟩
  obtain rfl:=hv.symm
  refine ⟨_,rfl,?_⟩
  cases q
  ·repeat' (first|refine za ?_|refine a_cutW rfl rfl rfl fun _ _=> ?_|refine a_catW rfl rfl fun _ _=> ?_|refine a_idxW rfl rfl fun _ _=> ?_|refine a_addW rfl rfl fun _ _=> ?_|refine a_subW rfl rfl fun _ _=> ?_|refine a_min rfl rfl fun _ _ _ _=> ?_|refine a_max rfl rfl fun _ _ _ _=> ?_|refine a_shr rfl rfl fun _ _=> ?_|refine a_and rfl rfl fun _ _=> ?_|refine a_cmp rfl rfl rfl (fun _=> ?_) fun _=> ?_|refine a_eq rfl rfl (fun _=> ?_) fun _=> ?_|refine a_ne rfl rfl (fun _=> ?_) fun _=> ?_)
   exact zk_ret1 (.inr rfl) rfl rfl ⟨⟨_,rfl⟩,rfl⟩
  ·repeat' (first|refine za ?_|refine a_cutW rfl rfl rfl fun _ _=> ?_|refine a_catW rfl rfl fun _ _=> ?_|refine a_idxW rfl rfl fun _ _=> ?_|refine a_addW rfl rfl fun _ _=> ?_|refine a_subW rfl rfl fun _ _=> ?_|refine a_min rfl rfl fun _ _ _ _=> ?_|refine a_max rfl rfl fun _ _ _ _=> ?_|refine a_shr rfl rfl fun _ _=> ?_|refine a_and rfl rfl fun _ _=> ?_|refine a_cmp rfl rfl rfl (fun _=> ?_) fun _=> ?_|refine a_eq rfl rfl (fun _=> ?_) fun _=> ?_|refine a_ne rfl rfl (fun _=> ?_) fun _=> ?_)
   exact zk_loopW (i+1) ⟨by omega,rfl⟩ (by omega) ⟨rfl,get_int rfl (by omega),trivial⟩
 ·repeat' (first|refine za ?_|refine a_cutW rfl rfl rfl fun _ _=> ?_|refine a_catW rfl rfl fun _ _=> ?_|refine a_idxW rfl rfl fun _ _=> ?_|refine a_addW rfl rfl fun _ _=> ?_|refine a_subW rfl rfl fun _ _=> ?_|refine a_min rfl rfl fun _ _ _ _=> ?_|refine a_max rfl rfl fun _ _ _ _=> ?_|refine a_shr rfl rfl fun _ _=> ?_|refine a_and rfl rfl fun _ _=> ?_|refine a_cmp rfl rfl rfl (fun _=> ?_) fun _=> ?_|refine a_eq rfl rfl (fun _=> ?_) fun _=> ?_|refine a_ne rfl rfl (fun _=> ?_) fun _=> ?_)
  all_goals exact zk_ret1 (.inr rfl) rfl rfl ⟨⟨_,rfl⟩,rfl⟩
theorem number_calls {w:World} (l:List UInt8) (hl:l.length≤big):Calls Tryz.prog 193 [.string (bs l)].toArray w fun e w'=>(∃k:Nat,e= .returned (.int .i64 k)∧k≤1048576)∧w'=w:=by
 have hbig:big=1000000000000:=rfl
 refine zCz 21 Tryz.func193 ?_
 repeat' (first|refine za ?_|refine a_cutW rfl rfl rfl fun _ _=> ?_|refine a_catW rfl rfl fun _ _=> ?_|refine a_idxW rfl rfl fun _ _=> ?_|refine a_addW rfl rfl fun _ _=> ?_|refine a_subW rfl rfl fun _ _=> ?_|refine a_min rfl rfl fun _ _ _ _=> ?_|refine a_max rfl rfl fun _ _ _ _=> ?_|refine a_shr rfl rfl fun _ _=> ?_|refine a_and rfl rfl fun _ _=> ?_|refine a_cmp rfl rfl rfl (fun _=> ?_) fun _=> ?_|refine a_eq rfl rfl (fun _=> ?_) fun _=> ?_|refine a_ne rfl rfl (fun _=> ?_) fun _=> ?_)
 refine zc_loopW (ι:=Nat×Nat) (fun q u=> [(0,.string (bs l)),(3,.int .i64 (q.2:Nat)),(4,.int .i64 (q.1:Nat))]) (fun q u=>q.1≤l.length∧q.2≤1048576∧u=w) (fun q u=>l.length - q.1) (0,0) ⟨Nat.zero_le _,Nat.zero_le _,rfl⟩ ⟨rfl,rfl,rfl,trivial⟩ ?_
 rintro ⟨i,k⟩ u ⟨hi,hk,hu⟩
 obtain rfl:=hu.symm
 dsimp only at hi hk ⊢
 by_cases hlt:i<l.length
 ·repeat' (first|refine za ?_|refine a_cutW rfl rfl rfl fun _ _=> ?_|refine a_catW rfl rfl fun _ _=> ?_|refine a_idxW rfl rfl fun _ _=> ?_|refine a_addW rfl rfl fun _ _=> ?_|refine a_subW rfl rfl fun _ _=> ?_|refine a_min rfl rfl fun _ _ _ _=> ?_|refine a_max rfl rfl fun _ _ _ _=> ?_|refine a_shr rfl rfl fun _ _=> ?_|refine a_and rfl rfl fun _ _=> ?_|refine a_cmp rfl rfl rfl (fun _=> ?_) fun _=> ?_|refine a_eq rfl rfl (fun _=> ?_) fun _=> ?_|refine a_ne rfl rfl (fun _=> ?_) fun _=> ?_)
  rename_i c4 hc0 hc1 hc2
  obtain ⟨m,hm⟩:=Int.eq_ofNat_of_zero_le (show 0≤c4 by omega)
  subst hm
  exact zk_loopW (i+1,m) ⟨by dsimp only;omega,by dsimp only;omega,rfl⟩ (by dsimp only;omega) ⟨rfl,rfl,get_int rfl (by omega),trivial⟩
 ·repeat' (first|refine za ?_|refine a_cutW rfl rfl rfl fun _ _=> ?_|refine a_catW rfl rfl fun _ _=> ?_|refine a_idxW rfl rfl fun _ _=> ?_|refine a_addW rfl rfl fun _ _=> ?_|refine a_subW rfl rfl fun _ _=> ?_|refine a_min rfl rfl fun _ _ _ _=> ?_|refine a_max rfl rfl fun _ _ _ _=> ?_|refine a_shr rfl rfl fun _ _=> ?_|refine a_and rfl rfl fun _ _=> ?_|refine a_cmp rfl rfl rfl (fun _=> ?_) fun _=> ?_|refine a_eq rfl rfl (fun _=> ?_) fun _=> ?_|refine a_ne rfl rfl (fun _=> ?_) fun _=> ?_)
  exact zk_ret1 (.inr rfl) rfl rfl ⟨⟨_,rfl,hk⟩,rfl⟩
theorem small12_calls {w:World} (l:List UInt8) (hl:l.length≤big):Calls Tryz.prog 192 [.string (bs l)].toArray w fun e w'=>(∃q:Bool,e= .returned (.bool q))∧w'=w:=by
 have hbig:big=1000000000000:=rfl
 refine zCz 24 Tryz.func192 ?_
 repeat' (first|refine za ?_|refine a_cutW rfl rfl rfl fun _ _=> ?_|refine a_catW rfl rfl fun _ _=> ?_|refine a_idxW rfl rfl fun _ _=> ?_|refine a_addW rfl rfl fun _ _=> ?_|refine a_subW rfl rfl fun _ _=> ?_|refine a_min rfl rfl fun _ _ _ _=> ?_|refine a_max rfl rfl fun _ _ _ _=> ?_|refine a_shr rfl rfl fun _ _=> ?_|refine a_and rfl rfl fun _ _=> ?_|refine a_cmp rfl rfl rfl (fun _=> ?_) fun _=> ?_|refine a_eq rfl rfl (fun _=> ?_) fun _=> ?_|refine a_ne rfl rfl (fun _=> ?_) fun _=> ?_)
 refine zCl rfl (digits_calls l hl) ?_
 rintro _ v ⟨⟨q,rfl⟩,hv⟩
 obtain rfl:=hv.symm
 refine ⟨_,rfl,?_⟩
 cases q
 ·repeat' (first|refine za ?_|refine a_cutW rfl rfl rfl fun _ _=> ?_|refine a_catW rfl rfl fun _ _=> ?_|refine a_idxW rfl rfl fun _ _=> ?_|refine a_addW rfl rfl fun _ _=> ?_|refine a_subW rfl rfl fun _ _=> ?_|refine a_min rfl rfl fun _ _ _ _=> ?_|refine a_max rfl rfl fun _ _ _ _=> ?_|refine a_shr rfl rfl fun _ _=> ?_|refine a_and rfl rfl fun _ _=> ?_|refine a_cmp rfl rfl rfl (fun _=> ?_) fun _=> ?_|refine a_eq rfl rfl (fun _=> ?_) fun _=> ?_|refine a_ne rfl rfl (fun _=> ?_) fun _=> ?_)
  exact zk_ret1 (.inr rfl) rfl rfl ⟨⟨_,rfl⟩,rfl⟩
 ·repeat' (first|refine za ?_|refine a_cutW rfl rfl rfl fun _ _=> ?_|refine a_catW rfl rfl fun _ _=> ?_|refine a_idxW rfl rfl fun _ _=> ?_|refine a_addW rfl rfl fun _ _=> ?_|refine a_subW rfl rfl fun _ _=> ?_|refine a_min rfl rfl fun _ _ _ _=> ?_|refine a_max rfl rfl fun _ _ _ _=> ?_|refine a_shr rfl rfl fun _ _=> ?_|refine a_and rfl rfl fun _ _=> ?_|refine a_cmp rfl rfl rfl (fun _=> ?_) fun _=> ?_|refine a_eq rfl rfl (fun _=> ?_) fun _=> ?_|refine a_ne rfl rfl (fun _=> ?_) fun _=> ?_)
  all_goals first|exact zk_ret1 (.inr rfl) rfl rfl ⟨⟨_,rfl⟩,rfl⟩|skip
  all_goals (refine zCl rfl (number_calls l hl) ?_;rintro _ v ⟨⟨k,rfl,hk⟩,hv⟩;obtain rfl:=hv.symm;refine ⟨_,rfl,?_⟩)
  repeat' (first|refine za ?_|refine a_cutW rfl rfl rfl fun _ _=> ?_|refine a_catW rfl rfl fun _ _=> ?_|refine a_idxW rfl rfl fun _ _=> ?_|refine a_addW rfl rfl fun _ _=> ?_|refine a_subW rfl rfl fun _ _=> ?_|refine a_min rfl rfl fun _ _ _ _=> ?_|refine a_max rfl rfl fun _ _ _ _=> ?_|refine a_shr rfl rfl fun _ _=> ?_|refine a_and rfl rfl fun _ _=> ?_|refine a_cmp rfl rfl rfl (fun _=> ?_) fun _=> ?_|refine a_eq rfl rfl (fun _=> ?_) fun _=> ?_|refine a_ne rfl rfl (fun _=> ?_) fun _=> ?_)
  all_goals exact zk_ret1 (.inr rfl) rfl rfl ⟨⟨_,rfl⟩,rfl⟩
end Go.Proofs.YtbcmiijollpgeaaGreat.V
