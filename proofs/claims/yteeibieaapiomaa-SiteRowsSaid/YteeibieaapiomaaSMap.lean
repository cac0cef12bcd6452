import Derived.Test.YteeibieaapiomaaDTape
import Derived.MapKept
/- A map from names to numbers in memory. Over any program. -/
namespace Go.Z
open Go Go.MapKept
/-- the map in block r tells m -/
def MpI (w : World) (r : Nat) (m : ByteArray → Int) : Prop :=
  ∃ es c, w.heap[r]? = some (.map es c) ∧ (∀ x ∈ es.toList, ∃ s, x.key = .string s ∧ x.val = .int .i64 (m s)) ∧ (∀ i j, i < es.size → j < es.size → i ≠ j → (es[i]?.map (·.key)) ≠ (es[j]?.map (·.key))) ∧ ∀ s, (∀ x ∈ es.toList, x.key ≠ .string s) → m s = 0
section
variable {w w' : World} {r : Nat} {m : ByteArray → Int} {S : Nat → Prop}
theorem MpI.lt (h : MpI w r m) : r < w.heap.size := by
  obtain ⟨es, c, h1, _⟩ := h
  exact (Array.getElem?_eq_some_iff.1 h1).1
theorem MpI.chg (h : MpI w r m) (hc : Chg w w' S) (hn : ¬ S r) : MpI w' r m := by
  have hlt := h.lt
  obtain ⟨es, c, h1, h2⟩ := h
  exact ⟨es, c, (hc.same r hlt hn).trans h1, h2⟩
theorem MpI.no (h : MpI w r m) (hc : Chg w w' No) : MpI w' r m := h.chg hc id
theorem MpI.ne (h : MpI w r m) {b t : Nat} {cs : List Value} (hb : Blk w b t cs) : b ≠ r := by
  rintro rfl
  obtain ⟨es, c, h1, _⟩ := h
  unfold Blk at hb
  rw [h1] at hb; cases hb
def updM (m : ByteArray → Int) (k : ByteArray) (z : Int) : ByteArray → Int := fun s => if s = k then z else m s
variable {P : Program} {n : Nat} {e : Env} {Q : Exit → Act → World → Prop} {ops : Array Oper} {rest : List Oper}
theorem run_lookup {t kt et : TypeId} {k : ByteArray} (hu : P.underlying t = some (.map kt et)) (hk : P.underlying kt = some .string) (hz : (zeroValue et).run P w = .ok (.int .i64 0) w) (h : MpI w r m) :
    (Instr.lookup t (.map (some r)) (.string k) false).run P w = .ok (.int .i64 (m k)) w := by
  obtain ⟨es, c, h1, h2, _, h4⟩ := h
  have hks : ∀ x ∈ es.toList, IsKey .string x.key := fun x hx => by
    obtain ⟨s, hs, _⟩ := h2 x hx; rw [hs]; trivial
  have hkk : IsKey .string (Value.string k) := trivial
  rcases findNow_spec hkk es.toList 0 hks with ⟨g1, g2⟩ | ⟨j, x, g1, g2, g3⟩
  · simp [Instr.lookup, run_underlying hu, Go.MapKept.run_getObj_map h1, Go.MapKept.run_checkKey hk hkk, Go.MapKept.run_findKey hk g1, Result.andThen, hz, h4 k g2]
  · have hx : x ∈ es.toList := List.mem_iff_getElem?.2 ⟨j, g2⟩
    obtain ⟨s, hs, hv⟩ := h2 x hx
    rw [g3] at hs; cases hs
    simp [Instr.lookup, run_underlying hu, Go.MapKept.run_getObj_map h1, Go.MapKept.run_checkKey hk hkk, Go.MapKept.run_findKey hk g1, Result.andThen, hv]
theorem run_mapUpd {t kt et : TypeId} {k : ByteArray} {z : Int} (hu : P.underlying t = some (.map kt et)) (hk : P.underlying kt = some .string) (h : MpI w r m) :
    ∃ w', (Instr.mapUpdate t (.map (some r)) (.string k) (.int .i64 z)).run P w = .ok () w' ∧ MpI w' r (updM m k z) ∧ Chg w w' (· = r) ∧ w'.heap.size = w.heap.size := by
  obtain ⟨es, c, h1, h2, h3, h4⟩ := h
  have hks : ∀ x ∈ es.toList, IsKey .string x.key := fun x hx => by
    obtain ⟨s, hs, _⟩ := h2 x hx; rw [hs]; trivial
  have hkk : IsKey .string (Value.string k) := trivial
  have hch : ∀ o : Obj, Chg w { w with heap := w.heap.setIfInBounds r o } (· = r) := fun o => ⟨rfl, rfl, rfl, by simp, fun j _ hj => by simp [Ne.symm hj]⟩
  rcases findNow_spec hkk es.toList 0 hks with ⟨g1, g2⟩ | ⟨j, x, g1, g2, g3⟩
  · refine ⟨{ w with heap := w.heap.setIfInBounds r (.map (es.push { key := .string k, val := .int .i64 z, born := c }) (c + 1)) }, ?_, ⟨_, _, (Go.MapKept.heap_set h1).1, ?_, ?_, ?_⟩, hch _, by simp⟩
    · simp [Instr.mapUpdate, run_underlying hu, Go.MapKept.run_getObj_map h1, Go.MapKept.run_checkKey hk hkk, Go.MapKept.run_findKey hk g1, Go.MapKept.run_setObj_map _ h1, Result.andThen]
    · intro y hy
      simp only [Array.toList_push, List.mem_append, List.mem_singleton] at hy
      rcases hy with hy | rfl
      · obtain ⟨s, hs, hv⟩ := h2 y hy
        refine ⟨s, hs, ?_⟩
        have : s ≠ k := fun he => g2 y hy (by rw [hs, he])
        rw [hv]; unfold updM; rw [if_neg this]
      · exact ⟨k, rfl, by unfold updM; rw [if_pos rfl]⟩
    · have hno : ∀ i, i < es.size → (es[i]?.map (·.key)) ≠ some (.string k) := fun i hi he => by
        obtain ⟨y, hy, hyk⟩ := Option.map_eq_some_iff.1 he
        exact g2 y (by rw [Array.mem_toList_iff, Array.mem_iff_getElem?]; exact ⟨i, hy⟩) hyk
      intro i j hi hj hij
      simp only [Array.size_push] at hi hj
      simp only [Array.getElem?_push]
      by_cases h5 : i = es.size
      · rw [if_pos h5, if_neg (by omega)]
        exact fun he => hno j (by omega) he.symm
      · rw [if_neg h5]
        by_cases h6 : j = es.size
        · rw [if_pos h6]; exact hno i (by omega)
        · rw [if_neg h6]; exact h3 i j (by omega) (by omega) hij
    · intro s hs
      have hsk : s ≠ k := fun he => hs { key := .string k, val := .int .i64 z, born := c } (by simp) (by rw [he])
      unfold updM; rw [if_neg hsk]
      exact h4 s (fun y hy => hs y (by simp [Array.mem_toList_iff.1 hy]))
  · have hj : es[j]? = some x := by simpa using g2
    refine ⟨{ w with heap := w.heap.setIfInBounds r (.map (es.modify j fun e => { e with key := .string k, val := .int .i64 z }) c) }, ?_, ⟨_, _, (Go.MapKept.heap_set h1).1, ?_, ?_, ?_⟩, hch _, by simp⟩
    · simp [Instr.mapUpdate, run_underlying hu, Go.MapKept.run_getObj_map h1, Go.MapKept.run_checkKey hk hkk, Go.MapKept.run_findKey hk g1, hj, g3, Go.MapKept.run_keyThatStays hkk, Go.MapKept.run_setObj_map _ h1, Result.andThen]
    · intro y hy
      rw [Array.mem_toList_iff, Array.mem_iff_getElem?] at hy
      obtain ⟨i, hi⟩ := hy
      rw [Array.getElem?_modify] at hi
      by_cases hij : j = i
      · subst hij
        rw [if_pos rfl, hj] at hi
        simp only [Option.map_some, Option.some.injEq] at hi
        subst hi
        exact ⟨k, rfl, by unfold updM; rw [if_pos rfl]⟩
      · rw [if_neg hij] at hi
        have hyl : y ∈ es.toList := by rw [Array.mem_toList_iff, Array.mem_iff_getElem?]; exact ⟨i, hi⟩
        obtain ⟨s, hs, hv⟩ := h2 y hyl
        refine ⟨s, hs, ?_⟩
        have hjl : j < es.size := (Array.getElem?_eq_some_iff.1 hj).1
        have hil : i < es.size := (Array.getElem?_eq_some_iff.1 hi).1
        have : s ≠ k := fun he => h3 j i hjl hil hij (by rw [hj, hi]; simp [g3, hs, he])
        rw [hv]; unfold updM; rw [if_neg this]
    · intro a b ha hb hab
      have hm : ∀ i : Nat, ((es.modify j fun e => { e with key := .string k, val := .int .i64 z })[i]?.map MapEntry.key) = (es[i]?.map MapEntry.key) := fun i => by
        rw [Array.getElem?_modify]
        by_cases hij : j = i
        · subst hij; rw [if_pos rfl, hj]; simp [g3]
        · rw [if_neg hij]
      have h5 := hm a
      have h6 := hm b
      show ¬ _ = _
      rw [h5, h6]
      exact h3 a b (by simpa using ha) (by simpa using hb) hab
    · intro s hs
      have hsk : s ≠ k := fun he => hs { x with key := .string k, val := .int .i64 z } (by
        rw [Array.mem_toList_iff, Array.mem_iff_getElem?]
        exact ⟨j, by rw [Array.getElem?_modify, if_pos rfl, hj]; rfl⟩) (by rw [he])
      unfold updM; rw [if_neg hsk]
      refine h4 s (fun y hy => ?_)
      rw [Array.mem_toList_iff, Array.mem_iff_getElem?] at hy
      obtain ⟨i, hi⟩ := hy
      by_cases hij : j = i
      · subst hij
        rw [hj] at hi; cases hi
        rw [g3]; exact fun he => hsk (by cases he; rfl)
      · exact hs y (by rw [Array.mem_toList_iff, Array.mem_iff_getElem?]; exact ⟨i, by rw [Array.getElem?_modify, if_neg hij]; exact hi⟩)
variable {d : Tmp} {ty : TypeId} {pos : String} {aft : Array Edge} {g : Option (Nat × Bool)}
theorem r_lookup {t kt et : TypeId} {x y : Operand} {k : ByteArray} (hu : P.underlying t = some (.map kt et)) (hk : P.underlying kt = some .string) (hz : ∀ w, (zeroValue et).run P w = .ok (.int .i64 0) w) (hx : ev e x = some (.map (some r))) (hy : ev e y = some (.string k)) (h : MpI w r m) :
    Rd P n e w ⟨some d, .lookup t x y false, ty, pos, aft, g⟩ (.int .i64 (m k)) := fun a ha => by
  simp [execOp, ha.ev hx, ha.ev hy, run_lookup hu hk (hz w) h]
theorem run_upd {t kt et : TypeId} {x y v : Operand} {k : ByteArray} {z : Int} (hu : P.underlying t = some (.map kt et)) (hk : P.underlying kt = some .string) (hx : ev e x = some (.map (some r))) (hy : ev e y = some (.string k)) (hv : ev e v = some (.int .i64 z)) (h : MpI w r m) :
    ∃ w', (∀ a, Ok n e a → (execOp a.eval (⟨none, .mapUpdate t x y v, ty, pos, aft, g⟩ : Oper)).run P w = .ok .skip w') ∧ MpI w' r (updM m k z) ∧ Chg w w' (· = r) ∧ w'.heap.size = w.heap.size := by
  obtain ⟨w', h1, h2⟩ := run_mapUpd (P := P) (k := k) (z := z) hu hk h
  exact ⟨w', fun a ha => by simp [execOp, ha.ev hx, ha.ev hy, ha.ev hv, h1], h2⟩
theorem zs_mapUpdL {ks : List Nat} {S : World → Prop} {i : Nat} {t kt et : TypeId} {x y v : Operand} {k : ByteArray} {z : Int} (hi : ops[i]? = some ⟨none, .mapUpdate t x y v, ty, pos, aft, g⟩) (hw : Want ops e g) (hu : P.underlying t = some (.map kt et)) (hk : P.underlying kt = some .string) (hx : ev e x = some (.map (some r))) (hy : ev e y = some (.string k)) (hv : ev e v = some (.int .i64 z)) (hm : MpI w r m)
    (h : ∀ w', MpI w' r (updM m k z) → Chg w w' (· = r) → w'.heap.size = w.heap.size → ZK n .normal e w' Q) : ZS P n ops ks S (.last i) e w Q := by
  obtain ⟨w', hr, g1, g2, g3⟩ := run_upd (P := P) (n := n) (ty := ty) (pos := pos) (aft := aft) (g := g) hu hk hx hy hv hm
  exact zs_runUL hi hw rfl hr (h w' g1 g2 g3)
theorem z_makeMap {t : TypeId} (hw : Want ops e g) (hdn : d < n) (h : ∀ w' r, MpI w' r (fun _ => 0) → Chg w w' No → r = w.heap.size → w'.heap.size = w.heap.size + 1 → ZL P n ops rest ((d, .map (some r)) :: e) w' Q) :
    ZL P n ops (⟨some d, .makeMap t none, ty, pos, aft, g⟩ :: rest) e w Q := by
  refine zl_run (v := .map (some w.heap.size)) (w' := { w with heap := w.heap.push (.map #[] 0) }) hw rfl hdn (fun a ha => by simp [execOp, Instr.makeMap, newObj, Sem.run]) (h _ _ ⟨#[], 0, by simp, by simp, fun i j hi => by simp at hi, fun _ _ => rfl⟩ ⟨rfl, rfl, rfl, by simp, fun k hk _ => by simp [Array.getElem?_push, Nat.ne_of_lt hk]⟩ rfl (by simp))
end
end Go.Z
