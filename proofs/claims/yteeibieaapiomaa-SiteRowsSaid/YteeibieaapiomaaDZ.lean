import Derived.Test.YteeibieaapiomaaDSame2
namespace Go.Z
open Go
section
variable {P : Program} {n : Nat} {e : Env} {w : World} {Q : Exit → Act → World → Prop} {ops : Array Oper} {rest : List Oper}
variable {d : Tmp} {ty : TypeId} {pos : String} {aft : Array Edge} {g : Option (Nat × Bool)}
theorem r_cut3 {B : Option Addr} {m c s j k : Nat} {z : Value} {x y1 y2 : Operand} {t el : TypeId} [hu : Und P t (.slice el)] [hz : Inf P el s j z] (hB : Flat B) (hx : ev e x = some (.slice B m c)) (h1 : ev e y1 = some (.int .i64 k)) (h2 : ev e y2 = some (.int .i64 k)) (hc : k ≤ c) :
    Rd P n e w ⟨some d, .slice t x none (some y1) (some y2), ty, pos, aft, g⟩ (.slice B k k) := fun A hA => by
  have hsz := hz.size w
  have h0 : (if k = 0 then B else B.map (·.add (0 * s))) = B := by
    split
    · rfl
    · rcases hB with rfl | ⟨b, o, rfl⟩ <;> simp [Addr.add]
  have hkc : (k : Int) ≤ c := by omega
  simp [execOp, hA.ev hx, hA.ev h1, hA.ev h2, Instr.sliceAt, Instr.slice, run_underlying hu.eq, Instr.sliceBounds, Instr.sliceBound, asIntOf, hsz, hkc]
  rw [if_pos hc]
  rcases hB with rfl | ⟨b, o, rfl⟩ <;> simp [Addr.add]
theorem z_makeFunc {f : FuncId} {l : List Operand} {vs : List Value} (hw : Want ops e g) (hdn : d < n) (hx : evs e l = some vs) (h : ZL P n ops rest ((d, .func (.func f) vs.toArray #[]) :: e) w Q) :
    ZL P n ops (⟨some d, .makeFunc (.func f) l.toArray #[], ty, pos, aft, g⟩ :: rest) e w Q :=
  zl_run hw rfl hdn (fun A hA => by
    have hm : l.map A.eval = vs := evs_map hA hx
    simp [execOp, Instr.makeFunc, hm]) h
theorem z_callF {dst : Option Tmp} {f : FuncId} {x : Operand} {l : List Operand} {ats : Array TypeId} {us vs : List Value} {R : Ending → World → Prop} [hf : IsFn P f] (hw : Want ops e g) (hd : dst = some d) (hdn : d < n) (hfx : ev e x = some (.func (.func f) us.toArray #[])) (hx : evs e l = some vs)
    (hc : Calls P f (us ++ vs).toArray w R) (h : ∀ x w', R x w' → ∃ v, x = .returned v ∧ ZL P n ops rest ((d, v) :: e) w' Q) :
    ZL P n ops (⟨dst, .call { callee := .value x, args := l.toArray, argTypes := ats }, ty, pos, aft, g⟩ :: rest) e w Q := by
  unfold ZL at *
  intro A hA
  subst hd
  obtain ⟨fn, h1, h2, h3⟩ := hf.ex
  refine wpList_step fun K hK => ?_
  rw [if_pos (Want.wanted (o := ⟨some d, .call { callee := .value x, args := l.toArray, argTypes := ats }, ty, pos, aft, g⟩) hw hA)]
  unfold Oper.wp
  have hm : l.map A.eval = vs := evs_map hA hx
  have hr : (execOp A.eval (⟨some d, .call { callee := .value x, args := l.toArray, argTypes := ats }, ty, pos, aft, g⟩ : Oper)).run P w = .ok (.enter f (us ++ vs).toArray) w := by
    have h2' : ¬ fn.name = "runtime.NumGoroutine" := by simpa using h2
    have h3' : ¬ fn.body = none := fun h => by simp [h] at h3
    simp [execOp, resolve, hA.ev hfx, Deferred.ofValue, invoke, callFunc, h1, h2', h3', hm]
  rw [hr, Oper.upon_enter]
  refine hc.mono fun x w' hx => ?_
  obtain ⟨v, rfl, hz⟩ := h x w' hx
  exact hK _ _ (hz _ (hA.put d v hdn))
end
end Go.Z
