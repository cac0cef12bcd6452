import Derived.Test.YtbcmiijollpgeaaPMk
/- A region that draws its order, told operation by operation: each keeps what the others have told. Over any program. -/
namespace Go.Z
open Go
def dstOf (ops : Array Oper) (j : Nat) : Option Tmp := (ops[j]?).bind (·.dst)
def okDst (keys : List Nat) (n m : Nat) (ops : Array Oper) : Bool :=
  (List.range m).all fun i => match dstOf ops i with
    | some d => decide (d < n) && !keys.contains d && (List.range m).all fun j => i == j || dstOf ops j != some d
    | none => false
theorem okDst_at {keys : List Nat} {n m : Nat} {ops : Array Oper} (h : okDst keys n m ops = true) {i : Nat} (hi : i < m) : ∃ d, dstOf ops i = some d ∧ d < n ∧ d ∉ keys ∧ ∀ j, j < m → j ≠ i → dstOf ops j ≠ some d := by
  have h1 := List.all_eq_true.1 h i (List.mem_range.2 hi)
  cases hd : dstOf ops i with
  | none => simp [hd] at h1
  | some d =>
    simp only [hd, Bool.and_eq_true, decide_eq_true_eq, Bool.not_eq_true', List.all_eq_true, List.mem_range, Bool.or_eq_true, beq_iff_eq, bne_iff_ne] at h1
    obtain ⟨⟨h2, h3⟩, h4⟩ := h1
    refine ⟨d, rfl, h2, fun hk => ?_, fun j hj hji => ?_⟩
    · have : keys.contains d = true := by simpa using hk
      rw [this] at h3; cases h3
    · rcases h4 j hj with e | e
      · exact absurd e.symm hji
      · exact e
theorem wpAny_inv {P : Program} {ops : Array Oper} {Q : Exit → Act → World → Prop} (I : Array Bool → Act → World → Prop)
    (hstep : ∀ l a w i, l.size = ops.size → i ∈ Region.ready .any ops l → I l a w → wpOp P ops Q i (I (l.setIfInBounds i true)) a w)
    (hend : ∀ l a w, l.size = ops.size → Region.ready .any ops l = [] → I l a w → Q .normal a w) :
    ∀ (f : Nat) (l : Array Bool) (a : Act) (w : World), l.size = ops.size → l.toList.count false ≤ f → I l a w → wpAny P .any ops Q f l a w
  | 0, l, a, w, hsz, hc, h => by
    have h0 : Region.ready .any ops l = [] := by
      refine List.eq_nil_iff_forall_not_mem.2 (fun j hj => ?_)
      obtain ⟨h1, _⟩ := mem_ready.1 hj
      rcases Nat.lt_or_ge j l.size with h' | h'
      · have h2 : l[j] = false := by simpa [h'] using h1
        have h3 : false ∈ l.toList := by rw [← h2]; simp
        have := List.count_pos_iff.2 h3
        omega
      · simp [Array.getElem?_eq_none h'] at h1
    exact ⟨h0, hend l a w hsz h0 h⟩
  | f + 1, l, a, w, hsz, hc, h => by
    refine ⟨fun h0 => hend l a w hsz h0 h, fun i hi => ?_⟩
    refine wpOp_mono (fun a' w' h' => wpAny_inv I hstep hend f _ a' w' (by simpa using hsz) ?_ h') (hstep l a w i hsz hi h)
    obtain ⟨h1, _⟩ := mem_ready.1 hi
    rcases Nat.lt_or_ge i l.size with h' | h'
    · have h2 : l[i] = false := by simpa [h'] using h1
      have h3 := List.count_set (a := true) (b := false) (l := l.toList) (i := i) (by simpa using h')
      have h4 : l.toList[i]'(by simpa using h') = false := by simpa using h2
      rw [h4] at h3
      rw [Array.toList_setIfInBounds, h3]
      have e1 : (if (false == false) = true then 1 else 0) = 1 := rfl
      have e2 : (if (true == false) = true then 1 else 0) = 0 := rfl
      rw [e1, e2]
      have hc' : List.count false l.toList ≤ f + 1 := hc
      omega
    · simp [Array.getElem?_eq_none h'] at h1
section
variable {P : Program} {n : Nat} {e : Env} {w : World} {Q : Exit → Act → World → Prop}
/-- what an operation may look at -/
structure Lk (ops : Array Oper) (n : Nat) (e0 : Env) (G : Nat → Value → World → Prop) (T : World → Prop) (D : Nat → Prop) (a : Act) (w : World) : Prop where
  ok : Ok n e0 a
  t : T w
  dep : ∀ j, D j → ∀ d, dstOf ops j = some d → ∃ v, a.tmps[d]? = some v ∧ G j v w
def StepI (P : Program) (ops : Array Oper) (n : Nat) (e0 : Env) (G : Nat → Value → World → Prop) (T : World → Prop) (Q : Exit → Act → World → Prop) (i : Nat) : Prop :=
  ∀ a w, Lk ops n e0 G T (fun j => waits ops i j = true) a w → ∃ d, dstOf ops i = some d ∧ wpOp P ops (NP Q) i (fun a' w' => ∃ v, a' = a.put (some d) v ∧ G i v w' ∧ T w' ∧ ∀ j u, G j u w → G j u w') a w
theorem get_keys : ∀ (e : Env) (k : Nat) (v : Value), Env.get e k = some v → k ∈ e.map Prod.fst
  | [], k, v, h => by simp [Env.get] at h
  | (j, u) :: r, k, v, h => by
    unfold Env.get at h
    split at h
    · rename_i hj; simp [hj]
    · exact List.mem_cons_of_mem _ (get_keys r k v h)
theorem Lk.put {ops : Array Oper} {e0 : Env} {G : Nat → Value → World → Prop} {T : World → Prop} {m : Nat} (hok : okDst (e0.map Prod.fst) n m ops = true) {D : Nat → Prop} (hD : ∀ j, D j → j < m) {a : Act} {w w' : World} (h : Lk ops n e0 G T D a w) {i : Nat} (hi : i < m) (hni : ¬ D i) {d : Tmp} (hd : dstOf ops i = some d) {v : Value}
    (hG : G i v w') (hT : T w') (hf : ∀ j u, G j u w → G j u w') : Lk ops n e0 G T (fun j => D j ∨ j = i) (a.put (some d) v) w' := by
  obtain ⟨d', hd', hdn, hdk, hdo⟩ := okDst_at hok hi
  rw [hd] at hd'; cases hd'
  have hsz := h.ok.size
  refine ⟨⟨h.ok.defers, by simp [Act.put, hsz], fun k u hk => ?_⟩, hT, fun j hj dj hdj => ?_⟩
  · have hne : d ≠ k := fun he => hdk (he ▸ get_keys e0 k u hk)
    simp only [Act.put, Array.getElem?_setIfInBounds_ne hne]
    exact h.ok.at_ k u hk
  · rcases hj with hj | rfl
    · obtain ⟨u, h1, h2⟩ := h.dep j hj dj hdj
      have hne : d ≠ dj := fun he => hdo j (hD j hj) (fun hji => hni (hji ▸ hj)) (he ▸ hdj)
      exact ⟨u, by simp only [Act.put, Array.getElem?_setIfInBounds_ne hne]; exact h1, hf j u h2⟩
    · rw [hd] at hdj; cases hdj
      exact ⟨v, by simp [Act.put, hsz, hdn], hG⟩
theorem waits_of {ops : Array Oper} {l : Array Bool} {i j : Nat} (h : i ∈ Region.ready .any ops l) (hw : waits ops i j = true) : l.getD j false = true := by
  obtain ⟨_, o, ho, hall⟩ := mem_ready.1 h
  simp only [waits, ho] at hw
  obtain ⟨e, he, hb⟩ := Array.any_eq_true'.1 hw
  simp only [Bool.and_eq_true, beq_iff_eq] at hb
  have := hall e he hb.1
  rwa [hb.2] at this
/-- each operation waits for earlier ones alone -/
def fwd (ops : Array Oper) : Bool := (List.range ops.size).all fun i => match ops[i]? with
  | some o => o.after.all fun e => decide (e.on < i)
  | none => true
theorem fwd_live {ops : Array Oper} (h : fwd ops = true) {b : Array Bool} (hsz : b.size = ops.size) (h0 : Region.ready .any ops b = []) : ∀ i, i < ops.size → b.getD i false = true := by
  intro i
  induction i using Nat.strongRecOn with
  | ind i ih =>
    intro hi
    rcases hb : b.getD i false with _ | _
    · exfalso
      have hin : i ∈ Region.ready .any ops b := by
        refine mem_ready.2 ⟨?_, ops[i], by simp [hi], fun e he _ => ?_⟩
        · have : i < b.size := by omega
          simpa [this] using hb
        · have h1 := List.all_eq_true.1 h i (List.mem_range.2 hi)
          have h2 : ops[i]? = some ops[i] := by simp [hi]
          simp only [h2] at h1
          have h3 := Array.all_eq_true_iff_forall_mem.1 h1 e he
          have h4 : e.on < i := by simpa using h3
          exact ih e.on h4 (by omega)
      rw [h0] at hin; cases hin
    · rfl
theorem gd_ne {b : Array Bool} {i m : Nat} (h : i ≠ m) (x : Bool) : (b.setIfInBounds i true).getD m x = b.getD m x := by
  simp only [Array.getD_eq_getD_getElem?, Array.getElem?_setIfInBounds_ne h]
theorem gd_rep (k j : Nat) : (Array.replicate k false).getD j false = false := by
  simp only [Array.getD_eq_getD_getElem?, Array.getElem?_replicate]
  split <;> rfl
/-- the region's last operation, where it is a store -/
def lastOk (ops : Array Oper) (m : Nat) : Bool := (List.range m).all fun j => waits ops m j
theorem zc_drawI {id : Nat} {l : List Oper} (m : Nat) (G : Nat → Value → World → Prop) (T : World → Prop) (e0 : Env) (hm : P.follows .mixedOrders = true) (hok : okDst (e0.map Prod.fst) n m l.toArray = true) (hfw : fwd l.toArray = true) (hsub : Sub e0 e) (hT : ∀ w', Chg w w' No → w'.heap = w.heap → T w')
    (hstep : ∀ i, i < m → StepI P l.toArray n e0 G T Q i) (hmz : m ≤ l.toArray.size) (hlast : m < l.toArray.size → m + 1 = l.toArray.size ∧ lastOk l.toArray m = true)
    (hfin : ∀ a w', Lk l.toArray n e0 G T (fun j => j < m) a w' → if m < l.toArray.size then wpOp P l.toArray (NP Q) m (NP Q .normal) a w' else NP Q .normal a w') : ZC P n (.region id l.toArray true) e w Q := by
  unfold ZC
  intro a ha
  refine wp_mono (wp_region_any (Q := NP Q) hm ?_) NP.le
  refine wpAny_inv (fun b a w => (b.getD m false = false ∧ Lk l.toArray n e0 G T (fun j => j < m ∧ b.getD j false = true) a w) ∨ (b.getD m false = true ∧ (∀ j, j < m → b.getD j false = true) ∧ NP Q .normal a w)) ?_ ?_ _ _ _ _ (by simp) (by simp [List.count_replicate]) ?_
  · intro b a w i hsz hi h
    obtain ⟨h0, o, ho, _⟩ := mem_ready.1 hi
    have hlt : i < l.toArray.size := (Array.getElem?_eq_some_iff.1 ho).1
    have hb : b.getD i false = false := by
      have h1 : i < b.size := by omega
      simpa [h1] using h0
    rcases h with ⟨hbm, h⟩ | ⟨hbm, hall, _⟩
    · by_cases him : i < m
      · have hni : ¬ (i < m ∧ b.getD i false = true) := fun hh => by rw [hb] at hh; cases hh.2
        have hjm : ∀ j, waits l.toArray i j = true → j < m := fun j hj => by
          have hfi := List.all_eq_true.1 hfw i (List.mem_range.2 hlt)
          simp only [ho] at hfi
          simp only [waits, ho] at hj
          obtain ⟨e, he, hbe⟩ := Array.any_eq_true'.1 hj
          simp only [Bool.and_eq_true, beq_iff_eq] at hbe
          have h3 := Array.all_eq_true_iff_forall_mem.1 hfi e he
          have h4 : e.on < i := by simpa using h3
          omega
        obtain ⟨d, hd, hw⟩ := hstep i him a w ⟨h.ok, h.t, fun j hj d hd => h.dep j ⟨hjm j hj, waits_of hi hj⟩ d hd⟩
        refine wpOp_mono (fun a' w' ⟨v, ha', hG, hT', hf⟩ => .inl ⟨?_, ?_⟩) hw
        · rw [gd_ne (show i ≠ m by omega)]; exact hbm
        · subst ha'
          have := Lk.put hok (fun j hj => hj.1) h him hni hd hG hT' hf
          refine ⟨this.ok, this.t, fun j hj dj hdj => this.dep j ?_ dj hdj⟩
          by_cases hji : j = i
          · exact .inr hji
          · refine .inl ⟨hj.1, ?_⟩
            have := hj.2
            rwa [gd_ne (Ne.symm hji)] at this
      · have hml : m < l.toArray.size := by omega
        obtain ⟨h5, h6⟩ := hlast hml
        obtain rfl : i = m := by omega
        have hall : ∀ j, j < i → b.getD j false = true := fun j hj => waits_of hi (List.all_eq_true.1 h6 j (List.mem_range.2 hj))
        have h7 := hfin a w ⟨h.ok, h.t, fun j hj d hd => h.dep j ⟨hj, hall j hj⟩ d hd⟩
        rw [if_pos hml] at h7
        refine wpOp_mono (fun a' w' hq => .inr ⟨?_, fun j hj => ?_, hq⟩) h7
        · have h1 : i < b.size := by omega
          simp [h1]
        · have := hall j hj
          rwa [gd_ne (show i ≠ j by omega)]
    · exfalso
      rcases Nat.lt_trichotomy i m with h1 | h1 | h1
      · rw [hall i h1] at hb; cases hb
      · subst h1; rw [hbm] at hb; cases hb
      · have := (hlast (by omega)).1; omega
  · intro b a w hsz h0 h
    rcases h with ⟨hbm, h⟩ | ⟨_, _, hq⟩
    · have hlv := fwd_live hfw hsz h0
      have hml : ¬ m < l.toArray.size := fun hh => by
        have := hlv m hh
        rw [hbm] at this; cases this
      have := hfin a w ⟨h.ok, h.t, fun j hj d hd => h.dep j ⟨hj, hlv j (by omega)⟩ d hd⟩
      rwa [if_neg hml] at this
    · exact hq
  · refine .inl ⟨gd_rep _ _, ha.sub hsub, hT _ ⟨rfl, rfl, rfl, Nat.le_refl _, fun _ _ _ => rfl⟩ rfl, fun j hj => ?_⟩
    have := hj.2
    rw [gd_rep] at this; cases this
theorem np_zk {a : Act} (h : ZK n .normal e w Q) (ha : Ok n e a) : NP Q .normal a w := by
  unfold ZK at h
  exact h a ha
/-! one operation -/
theorem Ok.cons {e : Env} {a : Act} {d : Nat} {v : Value} (h : Ok n e a) (hv : a.tmps[d]? = some v) : Ok n ((d, v) :: e) a := by
  refine ⟨h.defers, h.size, fun k u hk => ?_⟩
  simp only [Env.get] at hk
  split at hk
  · rename_i hdk; subst hdk; rw [hv]; exact hk
  · exact h.at_ k u hk
variable {ops : Array Oper} {K : Act → World → Prop} {i : Nat} {o : Oper} {d : Tmp} {v : Value} {a : Act}
theorem wo_run {w' : World} (hi : ops[i]? = some o) (hw : Want ops e o.guard) (hd : o.dst = some d) (ha : Ok n e a) (hr : ∀ a, Ok n e a → (execOp a.eval o).run P w = .ok (.value v) w') (h : K (a.put (some d) v) w') : wpOp P ops (NP Q) i K a w := by
  unfold wpOp
  simp only [hi, hw.wanted ha, if_true]
  refine .inl ?_
  unfold Oper.wp
  rw [hr a ha, Oper.upon_value, hd]
  exact h
theorem wo_runU {w' : World} (hi : ops[i]? = some o) (hw : Want ops e o.guard) (hd : o.dst = none) (ha : Ok n e a) (hr : ∀ a, Ok n e a → (execOp a.eval o).run P w = .ok .skip w') (h : K a w') : wpOp P ops (NP Q) i K a w := by
  unfold wpOp
  simp only [hi, hw.wanted ha, if_true]
  refine .inl ?_
  unfold Oper.wp
  rw [hr a ha, Oper.upon_skip, hd]
  exact h
theorem wo_pure (hi : ops[i]? = some o) (ha : Ok n e a) (hs : stepP n ops e o = some (d, v)) (h : K (a.put (some d) v) w) : wpOp P ops (NP Q) i K a w := by
  obtain ⟨hd, hdn, hy⟩ := stepP_yields (P := P) hs
  exact (hy a ha).wpOp hi (by rw [hd]; exact h)
theorem wo_store {t : TypeId} {x y : Operand} {b of : Nat} {bt : TypeId} {cs : List Value} {s k : Nat} {z : Value} {ty : TypeId} {pos : String} {aft : Array Edge} {g : Option (Nat × Bool)} [hz : Inf P t s k z] (hi : ops[i]? = some ⟨none, .store t x y, ty, pos, aft, g⟩) (hw : Want ops e g) (ha : Ok n e a) (hx : ev e x = some (.pointer (some ⟨b, of, none⟩))) (hy : ev e y = some v) (hs : v.cells.size = s) (hb : Blk w b bt cs)
    (hfit : of + s ≤ cs.length) (h1 : ∀ u ∈ v.cells.toList, u.oneCell' = true) (h : ∀ w', Upd w w' b bt (lay cs of v.cells.toList) → K a w') : wpOp P ops (NP Q) i K a w :=
  wo_runU hi hw rfl ha (fun a ha => by simp [execOp, ha.ev hx, ha.ev hy, run_storeAt hs hb hfit h1]) (h _ (Upd.setRow hb))
theorem wo_call {dst : Option Tmp} {f : FuncId} {l : List Operand} {ats : Array TypeId} {ty : TypeId} {pos : String} {aft : Array Edge} {g : Option (Nat × Bool)} {vs : List Value} {R : Ending → World → Prop} [hf : IsFn P f]
    (hi : ops[i]? = some ⟨dst, .call { callee := .value (.func f), args := l.toArray, argTypes := ats }, ty, pos, aft, g⟩) (hw : Want ops e g) (hd : dst = some d) (ha : Ok n e a) (hx : evs e l = some vs)
    (hc : Calls P f vs.toArray w R) (h : ∀ x w', R x w' → ∃ v, x = .returned v ∧ K (a.put (some d) v) w') : wpOp P ops (NP Q) i K a w := by
  subst hd
  obtain ⟨fn, h1, h2, h3⟩ := hf.ex
  unfold wpOp
  rw [hi]
  simp only [Want.wanted (o := ⟨some d, .call { callee := .value (.func f), args := l.toArray, argTypes := ats }, ty, pos, aft, g⟩) hw ha, if_true]
  refine .inl ?_
  unfold Oper.wp
  have hm : l.map a.eval = vs := evs_map ha hx
  have h2' : ¬ fn.name = "runtime.NumGoroutine" := by simpa using h2
  have h3' : ¬ fn.body = none := fun h => by simp [h] at h3
  have hr : (execOp a.eval (⟨some d, .call { callee := .value (.func f), args := l.toArray, argTypes := ats }, ty, pos, aft, g⟩ : Oper)).run P w = .ok (.enter f vs.toArray) w := by
    simp [execOp, resolve, Act.eval, Deferred.ofValue, invoke, callFunc, h1, h2', h3', hm]
  rw [hr, Oper.upon_enter]
  refine hc.mono fun x w' hx => ?_
  obtain ⟨v, rfl, hz⟩ := h x w' hx
  exact hz
end
section
variable {P : Program} {n : Nat} {e : Env} {w : World} {Q : Exit → Act → World → Prop} {ops : Array Oper} {rest : List Oper}
variable {d : Tmp} {ty : TypeId} {pos : String} {aft : Array Edge} {g : Option (Nat × Bool)} {ks : List Nat} {S : World → Prop}
theorem run_bsE {t el : TypeId} {len s k : Nat} {z : Value} {parts : List (Nat × Operand)} {pv : List (Nat × Value)} (cells : List Value) [hu : Und P t (.slice el)] [hz : Inf P el s k z] (hp : evp e parts = some pv)
    (hsm : len * s ≤ 16777216) (hpos : len * s ≠ 0) (hf : Instr.fill (fun i => some (i * s, s)) ((Array.range (len * s)).map (z.cells[· % z.cells.size]!)) pv = some cells.toArray) :
    ∀ a, Ok n e a → (execOp a.eval (⟨some d, .buildSlice t len parts.toArray, ty, pos, aft, g⟩ : Oper)).run P w = .ok (.value (.slice (some ⟨w.heap.size, 0, none⟩) len len)) { w with heap := w.heap.push (.cells cells.toArray el) } := fun A hA => by
  have h1 := evp_map hA hp
  have h2 : ¬ (len * s > 2 ^ 24) := by omega
  simp only [execOp, Sem.run_bind, List.map_toArray]
  rw [h1]
  simp only [Instr.buildSlice, Sem.run_bind, run_underlying hu.eq, Result.andThen_ok, hz.size w]
  rw [if_neg h2, if_neg hpos]
  simp only [pure_bind, Sem.run_bind, hz.zero w, Result.andThen_ok, Sem.run_pure]
  rw [hf]
  simp [newRow]
theorem zs_bsE {i : Nat} {r : Ord} {t el : TypeId} {len s k : Nat} {z : Value} {parts : List (Nat × Operand)} {pv : List (Nat × Value)} (cells : List Value) [hu : Und P t (.slice el)] [hz : Inf P el s k z] (hi : ops[i]? = some ⟨some d, .buildSlice t len parts.toArray, ty, pos, aft, g⟩) (hw : Want ops e g) (hdn : d < n) (hp : evp e parts = some pv)
    (hsm : len * s ≤ 16777216) (hpos : len * s ≠ 0) (hf : Instr.fill (fun i => some (i * s, s)) ((Array.range (len * s)).map (z.cells[· % z.cells.size]!)) pv = some cells.toArray)
    (h : ∀ w' b, New w w' b el cells → S w' ∧ ZS P n ops ks S r ((d, .slice (some ⟨b, 0, none⟩) len len) :: e) w' Q) : ZS P n ops ks S (.all1 i r) e w Q :=
  zs_new (t := el) (cs := cells) (v := .slice (some ⟨w.heap.size, 0, none⟩) len len) hi hw rfl hdn (run_bsE cells hp hsm hpos hf) (fun w' b hb hn => by subst hb; exact h w' _ hn)
theorem zo_bsE {i : Nat} {r : Ord} {t el : TypeId} {len s k : Nat} {z : Value} {parts : List (Nat × Operand)} {pv : List (Nat × Value)} (cells : List Value) [hu : Und P t (.slice el)] [hz : Inf P el s k z] (hi : ops[i]? = some ⟨some d, .buildSlice t len parts.toArray, ty, pos, aft, g⟩) (hw : Want ops e g) (hdn : d < n) (hp : evp e parts = some pv)
    (hsm : len * s ≤ 16777216) (hpos : len * s ≠ 0) (hf : Instr.fill (fun i => some (i * s, s)) ((Array.range (len * s)).map (z.cells[· % z.cells.size]!)) pv = some cells.toArray)
    (h : ∀ w' b, New w w' b el cells → S w' ∧ ZS P n ops ks S r ((d, .slice (some ⟨b, 0, none⟩) len len) :: e) w' Q) : ZO P n ops ks S i r e w Q := by
  obtain ⟨h4, h5⟩ := h _ _ (New.mk' w el cells)
  exact zo_run hi hw rfl hdn (run_bsE cells hp hsm hpos hf) h4 h5
end
end Go.Z
