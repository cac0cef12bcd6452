import Derived.Test.YtjiehalanklapaaRDoc2
/- A region that draws its order, told operation by operation, stores too; an operation may end what another told. Over any program. -/
namespace Go.Z
open Go
def dstOf (ops : Array Oper) (j : Nat) : Option Tmp := (ops[j]?).bind (·.dst)
def okDstS (keys : List Nat) (n : Nat) (ops : Array Oper) : Bool :=
  (List.range ops.size).all fun i => match dstOf ops i with
    | some d => decide (d < n) && !keys.contains d && (List.range ops.size).all fun j => i == j || dstOf ops j != some d
    | none => true
theorem okDstS_at {keys : List Nat} {n : Nat} {ops : Array Oper} (h : okDstS keys n ops = true) {i : Nat} (hi : i < ops.size) {d : Tmp} (hd : dstOf ops i = some d) : d < n ∧ d ∉ keys ∧ ∀ j, j < ops.size → j ≠ i → dstOf ops j ≠ some d := by
  have h1 := List.all_eq_true.1 h i (List.mem_range.2 hi)
  simp only [hd, Bool.and_eq_true, decide_eq_true_eq, Bool.not_eq_true', List.all_eq_true, List.mem_range, Bool.or_eq_true, beq_iff_eq, bne_iff_ne] at h1
  obtain ⟨⟨h2, h3⟩, h4⟩ := h1
  refine ⟨h2, fun hk => ?_, fun j hj hji => ?_⟩
  · have : keys.contains d = true := by simpa using hk
    rw [this] at h3; cases h3
  · rcases h4 j hj with e | e
    · exact absurd e.symm hji
    · exact e
theorem wpAny_inv {P : Program} {ops : Array Oper} {Q : Exit → Act → World → Prop} (I : Array Bool → Act → World → Prop)
    (hstep : ∀ l a w i, l.size = ops.size → i ∈ Region.ready .any ops l → I l a w → wpOp P ops Q i (I (l.setIfInBounds i true)) a w)
    (hend : ∀ l a w, l.size = ops.size → Region.ready .any ops l = [] → I l a w → Q .normal a w) :
    ∀ (f : Nat) (l : Array Bool) (a : Act) (w : World), l.size = ops.size → l.toList.count false ≤ f → I l a w → wpAny P .any ops Q f l a w
  | 0, l, a, w, hsz, hc, h => by
    have h0 : Region.ready .any ops l = [] := by
      refine List.eq_nil_iff_forall_not_mem.2 (fun j hj => ?_)
      obtain ⟨h1, _⟩ := mem_ready.1 hj
      rcases Nat.lt_or_ge j l.size with h' | h'
      · have h2 : l[j] = false := by simpa [h'] using h1
        have h3 : false ∈ l.toList := by rw [← h2]; simp
        have := List.count_pos_iff.2 h3
        omega
      · simp [Array.getElem?_eq_none h'] at h1
    exact ⟨h0, hend l a w hsz h0 h⟩
  | f + 1, l, a, w, hsz, hc, h => by
    refine ⟨fun h0 => hend l a w hsz h0 h, fun i hi => ?_⟩
    refine wpOp_mono (fun a' w' h' => wpAny_inv I hstep hend f _ a' w' (by simpa using hsz) ?_ h') (hstep l a w i hsz hi h)
    obtain ⟨h1, _⟩ := mem_ready.1 hi
    rcases Nat.lt_or_ge i l.size with h' | h'
    · have h2 : l[i] = false := by simpa [h'] using h1
      have h3 := List.count_set (a := true) (b := false) (l := l.toList) (i := i) (by simpa using h')
      have h4 : l.toList[i]'(by simpa using h') = false := by simpa using h2
      rw [h4] at h3
      rw [Array.toList_setIfInBounds, h3]
      have e1 : (if (false == false) = true then 1 else 0) = 1 := rfl
      have e2 : (if (true == false) = true then 1 else 0) = 0 := rfl
      rw [e1, e2]
      have hc' : List.count false l.toList ≤ f + 1 := hc
      omega
    · simp [Array.getElem?_eq_none h'] at h1
section
variable {P : Program} {n : Nat} {e : Env} {w : World} {Q : Exit → Act → World → Prop}
/-- what an operation may look at, where some things hold no more -/
structure LkK (ops : Array Oper) (n : Nat) (e0 : Env) (G : Nat → Value → World → Prop) (T : World → Prop) (D K : Nat → Prop) (a : Act) (w : World) : Prop where
  ok : Ok n e0 a
  t : T w
  dep : ∀ j, D j → ∀ d, dstOf ops j = some d → ∃ v, a.tmps[d]? = some v ∧ (¬ K j → G j v w)
theorem get_keys : ∀ (e : Env) (k : Nat) (v : Value), Env.get e k = some v → k ∈ e.map Prod.fst
  | [], k, v, h => by simp [Env.get] at h
  | (j, u) :: r, k, v, h => by
    unfold Env.get at h
    split at h
    · rename_i hj; simp [hj]
    · exact List.mem_cons_of_mem _ (get_keys r k v h)
theorem waits_of {ops : Array Oper} {l : Array Bool} {i j : Nat} (h : i ∈ Region.ready .any ops l) (hw : waits ops i j = true) : l.getD j false = true := by
  obtain ⟨_, o, ho, hall⟩ := mem_ready.1 h
  simp only [waits, ho] at hw
  obtain ⟨e, he, hb⟩ := Array.any_eq_true'.1 hw
  simp only [Bool.and_eq_true, beq_iff_eq] at hb
  have := hall e he hb.1
  rwa [hb.2] at this
/-- each operation waits for earlier ones alone -/
def fwdS (ops : Array Oper) : Bool := (List.range ops.size).all fun i => match ops[i]? with
  | some o => o.after.all fun e => !Region.binds .any e || decide (e.on < i)
  | none => true
theorem fwdS_live {ops : Array Oper} (h : fwdS ops = true) {b : Array Bool} (hsz : b.size = ops.size) (h0 : Region.ready .any ops b = []) : ∀ i, i < ops.size → b.getD i false = true := by
  intro i
  induction i using Nat.strongRecOn with
  | ind i ih =>
    intro hi
    rcases hb : b.getD i false with _ | _
    · exfalso
      have hin : i ∈ Region.ready .any ops b := by
        refine mem_ready.2 ⟨?_, ops[i], by simp [hi], fun e he hbe => ?_⟩
        · have : i < b.size := by omega
          simpa [this] using hb
        · have h1 := List.all_eq_true.1 h i (List.mem_range.2 hi)
          have h2 : ops[i]? = some ops[i] := by simp [hi]
          simp only [h2] at h1
          have h3 := Array.all_eq_true_iff_forall_mem.1 h1 e he
          have h4 : e.on < i := by
            simp only [Bool.or_eq_true, Bool.not_eq_true', decide_eq_true_eq] at h3
            rcases h3 with h3 | h3
            · rw [hbe] at h3; cases h3
            · exact h3
          exact ih e.on h4 (by omega)
      rw [h0] at hin; cases hin
    · rfl
theorem fwdS_lt {ops : Array Oper} (h : fwdS ops = true) {i j : Nat} (hw : waits ops i j = true) (hi : i < ops.size) : j < i := by
  have h1 := List.all_eq_true.1 h i (List.mem_range.2 hi)
  have h2 : ops[i]? = some ops[i] := by simp [hi]
  simp only [h2] at h1
  simp only [waits, h2] at hw
  obtain ⟨e, he, hb⟩ := Array.any_eq_true'.1 hw
  simp only [Bool.and_eq_true, beq_iff_eq] at hb
  have h3 := Array.all_eq_true_iff_forall_mem.1 h1 e he
  simp only [Bool.or_eq_true, Bool.not_eq_true', decide_eq_true_eq] at h3
  rcases h3 with h3 | h3
  · rw [hb.1] at h3; cases h3
  · omega
theorem gd_ne {b : Array Bool} {i m : Nat} (h : i ≠ m) (x : Bool) : (b.setIfInBounds i true).getD m x = b.getD m x := by
  simp only [Array.getD_eq_getD_getElem?, Array.getElem?_setIfInBounds_ne h]
theorem gd_rep (k j : Nat) : (Array.replicate k false).getD j false = false := by
  simp only [Array.getD_eq_getD_getElem?, Array.getElem?_replicate]
  split <;> rfl
/-- operation i; thing j holds till operation kill j has come -/
def StepS (P : Program) (ops : Array Oper) (n : Nat) (e0 : Env) (G : Nat → Value → World → Prop) (kill : Nat → Nat) (T : Array Bool → World → Prop) (Q : Exit → Act → World → Prop) (i : Nat) : Prop :=
  ∀ b a w, b.size = ops.size → b.getD i false = false → (∀ k j, b.getD k false = true → waits ops k j = true → b.getD j false = true) → (∀ j, waits ops i j = true → b.getD j false = true) → LkK ops n e0 G (T b) (fun j => waits ops i j = true) (fun j => ¬ (kill j = i ∨ ops.size ≤ kill j)) a w →
    wpOp P ops (NP Q) i (fun a' w' => (∀ d, dstOf ops i = some d → ∃ v, a' = a.put (some d) v ∧ G i v w') ∧ (dstOf ops i = none → a' = a) ∧ T (b.setIfInBounds i true) w' ∧ ∀ j u, j ≠ i → kill j ≠ i → G j u w → G j u w') a w
theorem LkK.putS {ops : Array Oper} {e0 : Env} {G : Nat → Value → World → Prop} {kill : Nat → Nat} {T T' : World → Prop} (hok : okDstS (e0.map Prod.fst) n ops = true) {D K : Nat → Prop} (hD : ∀ j, D j → j < ops.size) {a a' : Act} {w w' : World} (h : LkK ops n e0 G T D K a w) {i : Nat} (hi : i < ops.size) (hni : ¬ D i)
    (hG : ∀ d, dstOf ops i = some d → ∃ v, a' = a.put (some d) v ∧ G i v w') (hN : dstOf ops i = none → a' = a) (hT : T' w') (hf : ∀ j u, j ≠ i → kill j ≠ i → G j u w → G j u w') : LkK ops n e0 G T' (fun j => D j ∨ j = i) (fun j => K j ∨ kill j = i) a' w' := by
  cases hd : dstOf ops i with
  | none =>
    obtain rfl := hN hd
    refine ⟨h.ok, hT, fun j hj dj hdj => ?_⟩
    rcases hj with hj | rfl
    · obtain ⟨u, h1, h2⟩ := h.dep j hj dj hdj
      exact ⟨u, h1, fun hk => hf j u (fun he => hni (he ▸ hj)) (fun he => hk (.inr he)) (h2 (fun he => hk (.inl he)))⟩
    · rw [hd] at hdj; cases hdj
  | some d =>
    obtain ⟨v, rfl, hGv⟩ := hG d hd
    obtain ⟨hdn, hdk, hdo⟩ := okDstS_at hok hi hd
    have hsz := h.ok.size
    refine ⟨⟨h.ok.defers, by simp [Act.put, hsz], fun k u hk => ?_⟩, hT, fun j hj dj hdj => ?_⟩
    · have hne : d ≠ k := fun he => hdk (he ▸ get_keys e0 k u hk)
      simp only [Act.put, Array.getElem?_setIfInBounds_ne hne]
      exact h.ok.at_ k u hk
    · rcases hj with hj | rfl
      · obtain ⟨u, h1, h2⟩ := h.dep j hj dj hdj
        have hne : d ≠ dj := fun he => hdo j (hD j hj) (fun hji => hni (hji ▸ hj)) (he ▸ hdj)
        exact ⟨u, by simp only [Act.put, Array.getElem?_setIfInBounds_ne hne]; exact h1, fun hk => hf j u (fun he => hni (he ▸ hj)) (fun he => hk (.inr he)) (h2 (fun he => hk (.inl he)))⟩
      · rw [hd] at hdj; cases hdj
        exact ⟨v, by simp [Act.put, hsz, hdn], fun _ => hGv⟩
theorem zc_drawS {id : Nat} {l : List Oper} (G : Nat → Value → World → Prop) (kill : Nat → Nat) (T : Array Bool → World → Prop) (e0 : Env) (hm : P.follows .mixedOrders = true) (hok : okDstS (e0.map Prod.fst) n l.toArray = true) (hfw : fwdS l.toArray = true) (hsub : Sub e0 e) (hT : ∀ w', Chg w w' No → w'.heap = w.heap → T (Array.replicate l.toArray.size false) w')
    (hstep : ∀ i, i < l.toArray.size → StepS P l.toArray n e0 G kill T Q i)
    (hfin : ∀ b a w', (∀ i, i < l.toArray.size → b.getD i false = true) → LkK l.toArray n e0 G (T b) (fun j => j < l.toArray.size) (fun j => ¬ l.toArray.size ≤ kill j) a w' → NP Q .normal a w') : ZC P n (.region id l.toArray true) e w Q := by
  unfold ZC
  intro a ha
  refine wp_mono (wp_region_any (Q := NP Q) hm ?_) NP.le
  refine wpAny_inv (fun b a w => (∀ k j, b.getD k false = true → waits l.toArray k j = true → b.getD j false = true) ∧ LkK l.toArray n e0 G (T b) (fun j => j < l.toArray.size ∧ b.getD j false = true) (fun j => b.getD (kill j) false = true) a w) ?_ ?_ _ _ _ _ (by simp) (by simp [List.count_replicate]) ?_
  · intro b a w i hsz hi ⟨hcl, h⟩
    obtain ⟨h0, o, ho, _⟩ := mem_ready.1 hi
    have hlt : i < l.toArray.size := (Array.getElem?_eq_some_iff.1 ho).1
    have hb : b.getD i false = false := by
      have h1 : i < b.size := by omega
      simpa [h1] using h0
    have hni : ¬ (i < l.toArray.size ∧ b.getD i false = true) := fun hh => by rw [hb] at hh; cases hh.2
    have hkl : ∀ j, (kill j = i ∨ l.toArray.size ≤ kill j) → b.getD (kill j) false = false := fun j hj => by
      rcases hj with hj | hj
      · rw [hj]; exact hb
      · have h' : b.size ≤ kill j := by omega
        simp [Array.getElem?_eq_none h']
    have hw := hstep i hlt b a w hsz hb hcl (fun j hj => waits_of hi hj) ⟨h.ok, h.t, fun j hj d hd => by
      obtain ⟨v, h1, h2⟩ := h.dep j ⟨by have := fwdS_lt hfw hj hlt; omega, waits_of hi hj⟩ d hd
      exact ⟨v, h1, fun hk => h2 (fun he => by rw [hkl j (Classical.not_not.1 hk)] at he; cases he)⟩⟩
    refine wpOp_mono (fun a' w' ⟨hG, hN, hT', hf⟩ => ⟨?_, ?_⟩) hw
    · intro k j hk hw'
      by_cases hj : j = i
      · subst hj
        have h3 : j < b.size := by omega
        simp [h3]
      · rw [gd_ne (Ne.symm hj)]
        by_cases hk' : k = i
        · subst hk'; exact waits_of hi hw'
        · rw [gd_ne (Ne.symm hk')] at hk
          exact hcl k j hk hw'
    · have := LkK.putS hok (fun j hj => hj.1) h hlt hni hG hN hT' hf
      refine ⟨this.ok, this.t, fun j hj dj hdj => ?_⟩
      obtain ⟨v, h1, h2⟩ := this.dep j (by
        by_cases hji : j = i
        · exact .inr hji
        · refine .inl ⟨hj.1, ?_⟩
          have := hj.2
          rwa [gd_ne (Ne.symm hji)] at this) dj hdj
      refine ⟨v, h1, fun hk => h2 (fun he => hk ?_)⟩
      rcases he with he | he
      · by_cases hki : i = kill j
        · rw [← hki] at he; rw [hb] at he; cases he
        · rw [gd_ne hki]; exact he
      · rw [he]
        have h3 : i < b.size := by omega
        simp [h3]
  · intro b a w hsz h0 ⟨hcl, h⟩
    have hlv := fwdS_live hfw hsz h0
    have hkl : ∀ j, l.toArray.size ≤ kill j → b.getD (kill j) false = false := fun j hj => by
      have h' : b.size ≤ kill j := by omega
      simp [Array.getElem?_eq_none h']
    exact hfin b a w hlv ⟨h.ok, h.t, fun j hj d hd => by
      obtain ⟨v, h1, h2⟩ := h.dep j ⟨hj, hlv j hj⟩ d hd
      exact ⟨v, h1, fun hk => h2 (fun he => by rw [hkl j (Classical.not_not.1 hk)] at he; cases he)⟩⟩
  · refine ⟨(by intro k j hk; rw [gd_rep] at hk; cases hk), ha.sub hsub, hT _ ⟨rfl, rfl, rfl, Nat.le_refl _, fun _ _ _ => rfl⟩ rfl, fun j hj => ?_⟩
    have := hj.2
    rw [gd_rep] at this; cases this
theorem np_zk {a : Act} (h : ZK n .normal e w Q) (ha : Ok n e a) : NP Q .normal a w := by
  unfold ZK at h
  exact h a ha
/-! one operation -/
theorem Ok.cons {e : Env} {a : Act} {d : Nat} {v : Value} (h : Ok n e a) (hv : a.tmps[d]? = some v) : Ok n ((d, v) :: e) a := by
  refine ⟨h.defers, h.size, fun k u hk => ?_⟩
  simp only [Env.get] at hk
  split at hk
  · rename_i hdk; subst hdk; rw [hv]; exact hk
  · exact h.at_ k u hk
variable {ops : Array Oper} {K : Act → World → Prop} {i : Nat} {o : Oper} {d : Tmp} {v : Value} {a : Act}
theorem wo_run {w' : World} (hi : ops[i]? = some o) (hw : Want ops e o.guard) (hd : o.dst = some d) (ha : Ok n e a) (hr : ∀ a, Ok n e a → (execOp a.eval o).run P w = .ok (.value v) w') (h : K (a.put (some d) v) w') : wpOp P ops (NP Q) i K a w := by
  unfold wpOp
  simp only [hi, hw.wanted ha, if_true]
  refine .inl ?_
  unfold Oper.wp
  rw [hr a ha, Oper.upon_value, hd]
  exact h
theorem wo_runU {w' : World} (hi : ops[i]? = some o) (hw : Want ops e o.guard) (hd : o.dst = none) (ha : Ok n e a) (hr : ∀ a, Ok n e a → (execOp a.eval o).run P w = .ok .skip w') (h : K a w') : wpOp P ops (NP Q) i K a w := by
  unfold wpOp
  simp only [hi, hw.wanted ha, if_true]
  refine .inl ?_
  unfold Oper.wp
  rw [hr a ha, Oper.upon_skip, hd]
  exact h
theorem wo_pure (hi : ops[i]? = some o) (ha : Ok n e a) (hs : stepP n ops e o = some (d, v)) (h : K (a.put (some d) v) w) : wpOp P ops (NP Q) i K a w := by
  obtain ⟨hd, hdn, hy⟩ := stepP_yields (P := P) hs
  exact (hy a ha).wpOp hi (by rw [hd]; exact h)
theorem wo_store {t : TypeId} {x y : Operand} {b of : Nat} {bt : TypeId} {cs : List Value} {s k : Nat} {z : Value} {ty : TypeId} {pos : String} {aft : Array Edge} {g : Option (Nat × Bool)} [hz : Inf P t s k z] (hi : ops[i]? = some ⟨none, .store t x y, ty, pos, aft, g⟩) (hw : Want ops e g) (ha : Ok n e a) (hx : ev e x = some (.pointer (some ⟨b, of, none⟩))) (hy : ev e y = some v) (hs : v.cells.size = s) (hb : Blk w b bt cs)
    (hfit : of + s ≤ cs.length) (h1 : ∀ u ∈ v.cells.toList, u.oneCell' = true) (h : ∀ w', Upd w w' b bt (lay cs of v.cells.toList) → K a w') : wpOp P ops (NP Q) i K a w :=
  wo_runU hi hw rfl ha (fun a ha => by simp [execOp, ha.ev hx, ha.ev hy, run_storeAt hs hb hfit h1]) (h _ (Upd.setRow hb))
theorem wo_call {dst : Option Tmp} {f : FuncId} {l : List Operand} {ats : Array TypeId} {ty : TypeId} {pos : String} {aft : Array Edge} {g : Option (Nat × Bool)} {vs : List Value} {R : Ending → World → Prop} [hf : IsFn P f]
    (hi : ops[i]? = some ⟨dst, .call { callee := .value (.func f), args := l.toArray, argTypes := ats }, ty, pos, aft, g⟩) (hw : Want ops e g) (hd : dst = some d) (ha : Ok n e a) (hx : evs e l = some vs)
    (hc : Calls P f vs.toArray w R) (h : ∀ x w', R x w' → ∃ v, x = .returned v ∧ K (a.put (some d) v) w') : wpOp P ops (NP Q) i K a w := by
  subst hd
  obtain ⟨fn, h1, h2, h3⟩ := hf.ex
  unfold wpOp
  rw [hi]
  simp only [Want.wanted (o := ⟨some d, .call { callee := .value (.func f), args := l.toArray, argTypes := ats }, ty, pos, aft, g⟩) hw ha, if_true]
  refine .inl ?_
  unfold Oper.wp
  have hm : l.map a.eval = vs := evs_map ha hx
  have h2' : ¬ fn.name = "runtime.NumGoroutine" := by simpa using h2
  have h3' : ¬ fn.body = none := fun h => by simp [h] at h3
  have hr : (execOp a.eval (⟨some d, .call { callee := .value (.func f), args := l.toArray, argTypes := ats }, ty, pos, aft, g⟩ : Oper)).run P w = .ok (.enter f vs.toArray) w := by
    simp [execOp, resolve, Act.eval, Deferred.ofValue, invoke, callFunc, h1, h2', h3', hm]
  rw [hr, Oper.upon_enter]
  refine hc.mono fun x w' hx => ?_
  obtain ⟨v, rfl, hz⟩ := h x w' hx
  exact hz
end
section
variable {P : Program} {n : Nat} {e : Env} {w : World} {Q : Exit → Act → World → Prop} {ops : Array Oper} {rest : List Oper}
variable {d : Tmp} {ty : TypeId} {pos : String} {aft : Array Edge} {g : Option (Nat × Bool)} {ks : List Nat} {S : World → Prop}
theorem run_bsE {t el : TypeId} {len s k : Nat} {z : Value} {parts : List (Nat × Operand)} {pv : List (Nat × Value)} (cells : List Value) [hu : Und P t (.slice el)] [hz : Inf P el s k z] (hp : evp e parts = some pv)
    (hsm : len * s ≤ 16777216) (hpos : len * s ≠ 0) (hf : Instr.fill (fun i => some (i * s, s)) ((Array.range (len * s)).map (z.cells[· % z.cells.size]!)) pv = some cells.toArray) :
    ∀ a, Ok n e a → (execOp a.eval (⟨some d, .buildSlice t len parts.toArray, ty, pos, aft, g⟩ : Oper)).run P w = .ok (.value (.slice (some ⟨w.heap.size, 0, none⟩) len len)) { w with heap := w.heap.push (.cells cells.toArray el) } := fun A hA => by
  have h1 := evp_map hA hp
  have h2 : ¬ (len * s > 2 ^ 24) := by omega
  simp only [execOp, Sem.run_bind, List.map_toArray]
  rw [h1]
  simp only [Instr.buildSlice, Sem.run_bind, run_underlying hu.eq, Result.andThen_ok, hz.size w]
  rw [if_neg h2, if_neg hpos]
  simp only [pure_bind, Sem.run_bind, hz.zero w, Result.andThen_ok, Sem.run_pure]
  rw [hf]
  simp [newRow]
end
end Go.Z
