import Derived.Test.YtaagolhokejflaaPRead
namespace Go.Z
open Go
section
variable {P : Program} {n : Nat} {e : Env} {w : World} {Q : Exit → Act → World → Prop} {ops : Array Oper} {rest : List Oper}
variable {d : Tmp} {ty : TypeId} {pos : String} {aft : Array Edge} {g : Option (Nat × Bool)} {ks : List Nat} {S : World → Prop}
theorem run_bs0 {t el : TypeId} {s k : Nat} {z : Value} [hu : Und P t (.slice el)] [hz : Inf P el s k z] :
    ∀ a, Ok n e a → (execOp a.eval (⟨some d, .buildSlice t 0 #[], ty, pos, aft, g⟩ : Oper)).run P w = .ok (.value (.slice (some ⟨w.heap.size, 0, none⟩) 0 0)) { w with heap := w.heap.push (.cells (([] : List Value)).toArray el) } := fun A hA => by
  have h2 : ¬ (0 * s > 2 ^ 24) := by omega
  simp only [execOp, Sem.run_bind, List.map_toArray, List.map_nil]
  simp only [Instr.buildSlice, Sem.run_bind, run_underlying hu.eq, Result.andThen_ok, hz.size w]
  rw [if_neg h2, if_pos (by omega)]
  have e0 : (Array.range 0).map (fun _ : Nat => (default : Value)) = #[] := Array.eq_empty_of_size_eq_zero (by simp)
  simp [newRow, Instr.fill, e0]
theorem z_bs0 {t el : TypeId} {s k : Nat} {z : Value} [hu : Und P t (.slice el)] [hz : Inf P el s k z] (hw : Want ops e g) (hdn : d < n)
    (h : ∀ w' b, New w w' b el [] → ZL P n ops rest ((d, .slice (some ⟨b, 0, none⟩) 0 0) :: e) w' Q) : ZL P n ops (⟨some d, .buildSlice t 0 #[], ty, pos, aft, g⟩ :: rest) e w Q :=
  zl_run hw rfl hdn run_bs0 (h _ _ (New.mk' w el _))
theorem zs_bs0 {i : Nat} {r : Ord} {t el : TypeId} {s k : Nat} {z : Value} [hu : Und P t (.slice el)] [hz : Inf P el s k z] (hi : ops[i]? = some ⟨some d, .buildSlice t 0 #[], ty, pos, aft, g⟩) (hw : Want ops e g) (hdn : d < n)
    (h : ∀ w' b, New w w' b el [] → S w' ∧ ZS P n ops ks S r ((d, .slice (some ⟨b, 0, none⟩) 0 0) :: e) w' Q) : ZS P n ops ks S (.all1 i r) e w Q :=
  zs_new (t := el) (cs := []) (v := .slice (some ⟨w.heap.size, 0, none⟩) 0 0) hi hw rfl hdn run_bs0 (fun w' b hb hn => by subst hb; exact h w' _ hn)
theorem Own.empty {w w' : World} {t sz b : Nat} (h : New w w' b t []) : Own w' t sz (.slice (some ⟨b, 0, none⟩) 0 0) 0 [] :=
  Own.mk' (junk := []) (by simp) (Nat.le_refl _) (Nat.zero_le _) h.blk (by simp) (by simp)
/-- one operation, which may be the next -/
def ZO (P : Program) (n : Nat) (ops : Array Oper) (ks : List Nat) (S : World → Prop) (i : Nat) (r : Ord) (e : Env) (w : World) (Q : Exit → Act → World → Prop) : Prop :=
  S w → ∀ a, Ok n e a → wpOp P ops (NP Q) i (fun a' w' => S w' ∧ ∃ e', Ok n e' a' ∧ ZS P n ops ks S r e' w' Q) a w
theorem zs_two {i j : Nat} {r s : Ord} (h1 : ZO P n ops ks S i r e w Q) (h2 : ZO P n ops ks S j s e w Q) : ZS P n ops ks S (.all2 i r j s) e w Q :=
  zs_all2 fun hS a ha => ⟨h1 hS a ha, h2 hS a ha⟩
theorem zo_run {i : Nat} {o : Oper} {v : Value} {w' : World} {r : Ord} (hi : ops[i]? = some o) (hw : Want ops e o.guard) (hd : o.dst = some d) (hdn : d < n) (hr : ∀ a, Ok n e a → (execOp a.eval o).run P w = .ok (.value v) w')
    (hS : S w') (h : ZS P n ops ks S r ((d, v) :: e) w' Q) : ZO P n ops ks S i r e w Q := fun hS0 a ha => by
  unfold wpOp
  simp only [hi, hw.wanted ha, if_true]
  refine .inl ?_
  unfold Oper.wp
  rw [hr a ha, Oper.upon_value, hd]
  exact ⟨hS, _, ha.put d v hdn, h⟩
theorem zo_bs0 {i : Nat} {r : Ord} {t el : TypeId} {s k : Nat} {z : Value} [hu : Und P t (.slice el)] [hz : Inf P el s k z] (hi : ops[i]? = some ⟨some d, .buildSlice t 0 #[], ty, pos, aft, g⟩) (hw : Want ops e g) (hdn : d < n)
    (h : ∀ w' b, New w w' b el [] → S w' ∧ ZS P n ops ks S r ((d, .slice (some ⟨b, 0, none⟩) 0 0) :: e) w' Q) : ZO P n ops ks S i r e w Q := by
  obtain ⟨h4, h5⟩ := h _ _ (New.mk' w el [])
  exact zo_run hi hw rfl hdn run_bs0 h4 h5
theorem zo_bs1 {i : Nat} {r : Ord} {t el : TypeId} {s k : Nat} {z v : Value} {x : Operand} [hu : Und P t (.slice el)] [hz : Inf P el s k z] (hi : ops[i]? = some ⟨some d, .buildSlice t 1 #[(0, x)], ty, pos, aft, g⟩) (hw : Want ops e g) (hdn : d < n) (hx : ev e x = some v) (hzs : z.cells.size = s) (hs : v.cells.size = s) (hpos : s ≠ 0) (hsm : s ≤ 16777216)
    (h : ∀ w' b, New w w' b el v.cells.toList → S w' ∧ ZS P n ops ks S r ((d, .slice (some ⟨b, 0, none⟩) 1 1) :: e) w' Q) : ZO P n ops ks S i r e w Q := by
  obtain ⟨h4, h5⟩ := h _ _ (New.mk' w el _)
  exact zo_run hi hw rfl hdn (run_bs1 hx hzs hs hpos hsm) h4 h5
theorem zo_appendO {i : Nat} {r : Ord} {s x : Operand} {t el : TypeId} {sz k m m' : Nat} {z v xv : Value} {xs news : List Value} [hu : Und P t (.slice el)] [hz : Inf P el sz k z] (hi : ops[i]? = some ⟨some d, .call { callee := .builtin .append, args := #[s, x], argTypes := #[t, t] }, ty, pos, aft, g⟩) (hzs : z.cells.size = sz) (hsz : 0 < sz) (hw : Want ops e g) (hdn : d < n)
    (hs : ev e s = some v) (hx : ev e x = some xv) (hown : Own w el sz v m xs) (hnews : RdS w el sz xv m' news) (h63 : m + m' ≤ 9223372036854775807) (hby : (m + m') * k ≤ 140737488355328)
    (h : ∀ v' w', Own w' el sz v' (m + m') (xs ++ news) → Chg w w' (fun k => v.ownBlock = some k) → (v'.ownBlock = v.ownBlock ∨ ∃ k, v'.ownBlock = some k ∧ w.heap.size ≤ k) → S w' ∧ ZS P n ops ks S r ((d, v') :: e) w' Q) :
    ZO P n ops ks S i r e w Q := by
  obtain ⟨v', w', hr, h1, h2, h3⟩ := append_run (P := P) (n := n) (d := d) (ty := ty) (pos := pos) (aft := aft) (g := g) (t := t) hzs hsz hs hx hown hnews h63 hby
  obtain ⟨h4, h5⟩ := h v' w' h1 h2 h3
  exact zo_run hi hw rfl hdn hr h4 h5
theorem zo_call {i : Nat} {dst : Option Tmp} {d : Tmp} {f : FuncId} {l : List Operand} {ats : Array TypeId} {ty : TypeId} {pos : String} {aft : Array Edge} {g : Option (Nat × Bool)} {vs : List Value} {R : Ending → World → Prop} {r : Ord} [hf : IsFn P f]
    (hi : ops[i]? = some ⟨dst, .call { callee := .value (.func f), args := l.toArray, argTypes := ats }, ty, pos, aft, g⟩) (hw : Want ops e g) (hd : dst = some d) (hdn : d < n) (hx : evs e l = some vs)
    (hc : Calls P f vs.toArray w R) (h : ∀ x w', R x w' → ∃ v, x = .returned v ∧ S w' ∧ ZS P n ops ks S r ((d, v) :: e) w' Q) : ZO P n ops ks S i r e w Q := fun hS0 A hA => by
  subst hd
  obtain ⟨fn, h1, h2, h3⟩ := hf.ex
  unfold wpOp
  rw [hi]
  simp only [Want.wanted (o := ⟨some d, .call { callee := .value (.func f), args := l.toArray, argTypes := ats }, ty, pos, aft, g⟩) hw hA, if_true]
  refine .inl ?_
  unfold Oper.wp
  have hm : l.map A.eval = vs := evs_map hA hx
  have h2' : ¬ fn.name = "runtime.NumGoroutine" := by simpa using h2
  have h3' : ¬ fn.body = none := fun h => by simp [h] at h3
  have hr : (execOp A.eval (⟨some d, .call { callee := .value (.func f), args := l.toArray, argTypes := ats }, ty, pos, aft, g⟩ : Oper)).run P w = .ok (.enter f vs.toArray) w := by
    simp [execOp, resolve, Act.eval, Deferred.ofValue, invoke, callFunc, h1, h2', h3', hm]
  rw [hr, Oper.upon_enter]
  refine hc.mono fun x w' hx => ?_
  obtain ⟨v, rfl, hS', hz⟩ := h x w' hx
  exact ⟨hS', _, hA.put d v hdn, hz⟩
theorem zo_alloc {i : Nat} {r : Ord} {t : TypeId} {s k : Nat} {z : Value} [hz : Inf P t s k z] (hi : ops[i]? = some ⟨some d, .alloc t, ty, pos, aft, g⟩) (hw : Want ops e g) (hdn : d < n)
    (h : ∀ w' b, New w w' b t z.cells.toList → S w' ∧ ZS P n ops ks S r ((d, .pointer (some ⟨b, 0, none⟩)) :: e) w' Q) : ZO P n ops ks S i r e w Q := by
  obtain ⟨h4, h5⟩ := h _ _ (New.mk' w t _)
  exact zo_run hi hw rfl hdn (fun a ha => by simp [execOp, Instr.alloc, hz.zero w, newVar, newRow]) h4 h5
/-! cuts whose slots depend on what was found -/
theorem zc_midTX {ι : Type} {x y : Code} {Q1 Q2 : Exit → Act → World → Prop} (M : ι → World → Prop) (e' : ι → Env) (h1 : ZC P n x e w (Exit.then (fun a w' => ∃ i, M i w' ∧ Ok n (e' i) a) Q2)) (h2 : ∀ i w', M i w' → ZC P n y (e' i) w' Q1) : ZC P n x e w (Exit.then (y.wp P Q1) Q2) := by
  unfold ZC at *
  intro a ha
  refine wp_mono (h1 a ha) ?_
  intro z a' w' hq
  cases z with
  | normal => obtain ⟨i, hm, ho⟩ := hq; exact h2 i w' hm a' ho
  | exit id => exact hq
  | goto l => exact hq
  | ret => exact hq
  | panic ch => exact hq
  | outgrown => exact hq
theorem zc_midX {ι : Type} {x y : Code} (M : ι → World → Prop) (e' : ι → Env) (h1 : ZC P n x e w (Exit.then (fun a w' => ∃ i, M i w' ∧ Ok n (e' i) a) Q)) (h2 : ∀ i w', M i w' → ZC P n y (e' i) w' Q) : ZC P n (.seq x y) e w Q := zc_seq (zc_midTX M e' h1 h2)
theorem zc_midBX {ι : Type} {x y : Code} {id : Nat} {Q1 Q2 : Exit → Act → World → Prop} (M : ι → World → Prop) (e' : ι → Env) (h1 : ZC P n x e w (Exit.inBlock id (Exit.then (fun a w' => ∃ i, M i w' ∧ Ok n (e' i) a) Q2))) (h2 : ∀ i w', M i w' → ZC P n y (e' i) w' Q1) :
    ZC P n x e w (Exit.inBlock id (Exit.then (y.wp P Q1) Q2)) := by
  unfold ZC at *
  intro a ha
  refine wp_mono (h1 a ha) ?_
  intro z a' w' hq
  cases z with
  | normal => obtain ⟨i, hm, ho⟩ := hq; exact h2 i w' hm a' ho
  | exit j =>
    simp only [Exit.inBlock] at hq ⊢
    split
    · rename_i hj; rw [if_pos hj] at hq; obtain ⟨i, hm, ho⟩ := hq; exact h2 i w' hm a' ho
    · rename_i hj; rw [if_neg hj] at hq; exact hq
  | goto l => exact hq
  | ret => exact hq
  | panic ch => exact hq
  | outgrown => exact hq
theorem zk_midX {ι : Type} {M : ι → World → Prop} {e' : ι → Env} (i : ι) (hM : M i w) (hs : Sub (e' i) e) : ZK n .normal e w (Exit.then (fun a w' => ∃ i, M i w' ∧ Ok n (e' i) a) Q) := by
  unfold ZK
  exact fun a ha => ⟨i, hM, ha.sub hs⟩
theorem agg4 {w : World} {b o o' : Nat} {v0 v1 v2 v3 : Value} (h0 : w.cell? ⟨b, o', none⟩ = some v0) (h1 : w.cell? ⟨b, o' + 1, none⟩ = some v1) (h2 : w.cell? ⟨b, o' + 2, none⟩ = some v2) (h3 : w.cell? ⟨b, o' + 3, none⟩ = some v3) (he : o = o') : ∀ j u, [v0, v1, v2, v3][j]? = some u → w.cell? ((⟨b, o, none⟩ : Addr).add j) = some u := by
  subst he; intro j u hj; rw [addr_add]
  match j, hj with
  | 0, hj => simp at hj; subst hj; exact h0
  | 1, hj => simp at hj; subst hj; exact h1
  | 2, hj => simp at hj; subst hj; exact h2
  | 3, hj => simp at hj; subst hj; exact h3
end
/-- a row that was made since -/
def Frs (B : Nat) (v : Value) : Prop := ∃ k, v.ownBlock = some k ∧ B ≤ k
theorem Chg.frs {w w1 w2 : World} {v : Value} (h : Chg w w1 No) (hc : Chg w1 w2 (fun k => v.ownBlock = some k)) (hn : Frs w.heap.size v) : Chg w w2 No :=
  h.trans hc (fun i hi he => by obtain ⟨k, h1, h2⟩ := hn; rw [he] at h1; cases h1; omega)
theorem Frs.app {w : World} {B : Nat} {v v' : Value} (hn : Frs B v) (hB : B ≤ w.heap.size) (hr : v'.ownBlock = v.ownBlock ∨ ∃ k, v'.ownBlock = some k ∧ w.heap.size ≤ k) : Frs B v' := by
  rcases hr with h1 | ⟨q, h1, h2⟩
  · obtain ⟨k, h3, h4⟩ := hn; exact ⟨k, by rw [h1, h3], h4⟩
  · exact ⟨q, h1, by omega⟩
theorem Frs.blk {B b n c : Nat} (h : B ≤ b) : Frs B (.slice (some ⟨b, 0, none⟩) n c) := ⟨b, rfl, h⟩
theorem Frs.ne {B g : Nat} {v : Value} (h : Frs B v) (hg : g < B) : v.ownBlock ≠ some g := fun he => by
  obtain ⟨k, h1, h2⟩ := h; rw [he] at h1; cases h1; omega
/-- a block apart from what an append wrote -/
theorem Blk.app {w w' : World} {b t b0 m c : Nat} {cs : List Value} (h : Blk w b t cs) (hc : Chg w w' (fun k => (Value.slice (some ⟨b0, 0, none⟩) m c).ownBlock = some k)) (hne : b ≠ b0) : Blk w' b t cs :=
  h.chg hc (fun he => by simp [Value.ownBlock] at he; exact hne he.symm)
end Go.Z
