import Derived.Test.YtjiehalanklapaaDTape
/- A row written out, in a region that draws its order. -/
namespace Go.Z
open Go
section
variable {P : Program} {n : Nat} {e : Env} {w : World} {Q : Exit → Act → World → Prop} {ops : Array Oper} {rest : List Oper}
variable {d : Tmp} {ty : TypeId} {pos : String} {aft : Array Edge} {g : Option (Nat × Bool)} {ks : List Nat} {S : World → Prop}
theorem run_bsE {t el : TypeId} {len s k : Nat} {z : Value} {parts : List (Nat × Operand)} {pv : List (Nat × Value)} (cells : List Value) [hu : Und P t (.slice el)] [hz : Inf P el s k z] (hp : evp e parts = some pv)
    (hsm : len * s ≤ 16777216) (hpos : len * s ≠ 0) (hf : Instr.fill (fun i => some (i * s, s)) ((Array.range (len * s)).map (z.cells[· % z.cells.size]!)) pv = some cells.toArray) :
    ∀ a, Ok n e a → (execOp a.eval (⟨some d, .buildSlice t len parts.toArray, ty, pos, aft, g⟩ : Oper)).run P w = .ok (.value (.slice (some ⟨w.heap.size, 0, none⟩) len len)) { w with heap := w.heap.push (.cells cells.toArray el) } := fun A hA => by
  have h1 := evp_map hA hp
  have h2 : ¬ (len * s > 2 ^ 24) := by omega
  simp only [execOp, Sem.run_bind, List.map_toArray]
  rw [h1]
  simp only [Instr.buildSlice, Sem.run_bind, run_underlying hu.eq, Result.andThen_ok, hz.size w]
  rw [if_neg h2, if_neg hpos]
  simp only [pure_bind, Sem.run_bind, hz.zero w, Result.andThen_ok, Sem.run_pure]
  rw [hf]
  simp [newRow]
theorem zs_bsE {i : Nat} {r : Ord} {t el : TypeId} {len s k : Nat} {z : Value} {parts : List (Nat × Operand)} {pv : List (Nat × Value)} (cells : List Value) [hu : Und P t (.slice el)] [hz : Inf P el s k z] (hi : ops[i]? = some ⟨some d, .buildSlice t len parts.toArray, ty, pos, aft, g⟩) (hw : Want ops e g) (hdn : d < n) (hp : evp e parts = some pv)
    (hsm : len * s ≤ 16777216) (hpos : len * s ≠ 0) (hf : Instr.fill (fun i => some (i * s, s)) ((Array.range (len * s)).map (z.cells[· % z.cells.size]!)) pv = some cells.toArray)
    (h : ∀ w' b, New w w' b el cells → S w' ∧ ZS P n ops ks S r ((d, .slice (some ⟨b, 0, none⟩) len len) :: e) w' Q) : ZS P n ops ks S (.all1 i r) e w Q :=
  zs_new (t := el) (cs := cells) (v := .slice (some ⟨w.heap.size, 0, none⟩) len len) hi hw rfl hdn (run_bsE cells hp hsm hpos hf) (fun w' b hb hn => by subst hb; exact h w' _ hn)
theorem zo_bsE {i : Nat} {r : Ord} {t el : TypeId} {len s k : Nat} {z : Value} {parts : List (Nat × Operand)} {pv : List (Nat × Value)} (cells : List Value) [hu : Und P t (.slice el)] [hz : Inf P el s k z] (hi : ops[i]? = some ⟨some d, .buildSlice t len parts.toArray, ty, pos, aft, g⟩) (hw : Want ops e g) (hdn : d < n) (hp : evp e parts = some pv)
    (hsm : len * s ≤ 16777216) (hpos : len * s ≠ 0) (hf : Instr.fill (fun i => some (i * s, s)) ((Array.range (len * s)).map (z.cells[· % z.cells.size]!)) pv = some cells.toArray)
    (h : ∀ w' b, New w w' b el cells → S w' ∧ ZS P n ops ks S r ((d, .slice (some ⟨b, 0, none⟩) len len) :: e) w' Q) : ZO P n ops ks S i r e w Q := by
  obtain ⟨h4, h5⟩ := h _ _ (New.mk' w el cells)
  exact zo_run hi hw rfl hdn (run_bsE cells hp hsm hpos hf) h4 h5
end
end Go.Z
