import Derived.Test.YtbcmiijollpgeaaQ6
/- A region that draws its order, told operation by operation, stores too; an operation may end what another told. Over any program. -/
namespace Go.Z
open Go
def okDstS (keys : List Nat) (n : Nat) (ops : Array Oper) : Bool :=
  (List.range ops.size).all fun i => match dstOf ops i with
    | some d => decide (d < n) && !keys.contains d && (List.range ops.size).all fun j => i == j || dstOf ops j != some d
    | none => true
theorem okDstS_at {keys : List Nat} {n : Nat} {ops : Array Oper} (h : okDstS keys n ops = true) {i : Nat} (hi : i < ops.size) {d : Tmp} (hd : dstOf ops i = some d) : d < n ∧ d ∉ keys ∧ ∀ j, j < ops.size → j ≠ i → dstOf ops j ≠ some d := by
  have h1 := List.all_eq_true.1 h i (List.mem_range.2 hi)
  simp only [hd, Bool.and_eq_true, decide_eq_true_eq, Bool.not_eq_true', List.all_eq_true, List.mem_range, Bool.or_eq_true, beq_iff_eq, bne_iff_ne] at h1
  obtain ⟨⟨h2, h3⟩, h4⟩ := h1
  refine ⟨h2, fun hk => ?_, fun j hj hji => ?_⟩
  · have : keys.contains d = true := by simpa using hk
    rw [this] at h3; cases h3
  · rcases h4 j hj with e | e
    · exact absurd e.symm hji
    · exact e
section
variable {P : Program} {n : Nat} {e : Env} {w : World} {Q : Exit → Act → World → Prop}
/-- each operation waits for earlier ones alone -/
def fwdS (ops : Array Oper) : Bool := (List.range ops.size).all fun i => match ops[i]? with
  | some o => o.after.all fun e => !Region.binds .any e || decide (e.on < i)
  | none => true
theorem fwdS_live {ops : Array Oper} (h : fwdS ops = true) {b : Array Bool} (hsz : b.size = ops.size) (h0 : Region.ready .any ops b = []) : ∀ i, i < ops.size → b.getD i false = true := by
  intro i
  induction i using Nat.strongRecOn with
  | ind i ih =>
    intro hi
    rcases hb : b.getD i false with _ | _
    · exfalso
      have hin : i ∈ Region.ready .any ops b := by
        refine mem_ready.2 ⟨?_, ops[i], by simp [hi], fun e he hbe => ?_⟩
        · have : i < b.size := by omega
          simpa [this] using hb
        · have h1 := List.all_eq_true.1 h i (List.mem_range.2 hi)
          have h2 : ops[i]? = some ops[i] := by simp [hi]
          simp only [h2] at h1
          have h3 := Array.all_eq_true_iff_forall_mem.1 h1 e he
          have h4 : e.on < i := by
            simp only [Bool.or_eq_true, Bool.not_eq_true', decide_eq_true_eq] at h3
            rcases h3 with h3 | h3
            · rw [hbe] at h3; cases h3
            · exact h3
          exact ih e.on h4 (by omega)
      rw [h0] at hin; cases hin
    · rfl
theorem fwdS_lt {ops : Array Oper} (h : fwdS ops = true) {i j : Nat} (hw : waits ops i j = true) (hi : i < ops.size) : j < i := by
  have h1 := List.all_eq_true.1 h i (List.mem_range.2 hi)
  have h2 : ops[i]? = some ops[i] := by simp [hi]
  simp only [h2] at h1
  simp only [waits, h2] at hw
  obtain ⟨e, he, hb⟩ := Array.any_eq_true'.1 hw
  simp only [Bool.and_eq_true, beq_iff_eq] at hb
  have h3 := Array.all_eq_true_iff_forall_mem.1 h1 e he
  simp only [Bool.or_eq_true, Bool.not_eq_true', decide_eq_true_eq] at h3
  rcases h3 with h3 | h3
  · rw [hb.1] at h3; cases h3
  · omega
/-- operation i; thing j holds till operation kill j has come -/
def StepS (P : Program) (ops : Array Oper) (n : Nat) (e0 : Env) (G : Nat → Value → World → Prop) (kill : Nat → Nat) (T : Array Bool → World → Prop) (Q : Exit → Act → World → Prop) (i : Nat) : Prop :=
  ∀ b a w, b.size = ops.size → b.getD i false = false → (∀ k j, b.getD k false = true → waits ops k j = true → b.getD j false = true) → (∀ j, waits ops i j = true → b.getD j false = true) → LkK ops n e0 G (T b) (fun j => waits ops i j = true) (fun j => ¬ (kill j = i ∨ ops.size ≤ kill j)) a w →
    wpOp P ops (NP Q) i (fun a' w' => (∀ d, dstOf ops i = some d → ∃ v, a' = a.put (some d) v ∧ G i v w') ∧ (dstOf ops i = none → a' = a) ∧ T (b.setIfInBounds i true) w' ∧ ∀ j u, j ≠ i → kill j ≠ i → G j u w → G j u w') a w
theorem LkK.putS {ops : Array Oper} {e0 : Env} {G : Nat → Value → World → Prop} {kill : Nat → Nat} {T T' : World → Prop} (hok : okDstS (e0.map Prod.fst) n ops = true) {D K : Nat → Prop} (hD : ∀ j, D j → j < ops.size) {a a' : Act} {w w' : World} (h : LkK ops n e0 G T D K a w) {i : Nat} (hi : i < ops.size) (hni : ¬ D i)
    (hG : ∀ d, dstOf ops i = some d → ∃ v, a' = a.put (some d) v ∧ G i v w') (hN : dstOf ops i = none → a' = a) (hT : T' w') (hf : ∀ j u, j ≠ i → kill j ≠ i → G j u w → G j u w') : LkK ops n e0 G T' (fun j => D j ∨ j = i) (fun j => K j ∨ kill j = i) a' w' := by
  cases hd : dstOf ops i with
  | none =>
    obtain rfl := hN hd
    refine ⟨h.ok, hT, fun j hj dj hdj => ?_⟩
    rcases hj with hj | rfl
    · obtain ⟨u, h1, h2⟩ := h.dep j hj dj hdj
      exact ⟨u, h1, fun hk => hf j u (fun he => hni (he ▸ hj)) (fun he => hk (.inr he)) (h2 (fun he => hk (.inl he)))⟩
    · rw [hd] at hdj; cases hdj
  | some d =>
    obtain ⟨v, rfl, hGv⟩ := hG d hd
    obtain ⟨hdn, hdk, hdo⟩ := okDstS_at hok hi hd
    have hsz := h.ok.size
    refine ⟨⟨h.ok.defers, by simp [Act.put, hsz], fun k u hk => ?_⟩, hT, fun j hj dj hdj => ?_⟩
    · have hne : d ≠ k := fun he => hdk (he ▸ get_keys e0 k u hk)
      simp only [Act.put, Array.getElem?_setIfInBounds_ne hne]
      exact h.ok.at_ k u hk
    · rcases hj with hj | rfl
      · obtain ⟨u, h1, h2⟩ := h.dep j hj dj hdj
        have hne : d ≠ dj := fun he => hdo j (hD j hj) (fun hji => hni (hji ▸ hj)) (he ▸ hdj)
        exact ⟨u, by simp only [Act.put, Array.getElem?_setIfInBounds_ne hne]; exact h1, fun hk => hf j u (fun he => hni (he ▸ hj)) (fun he => hk (.inr he)) (h2 (fun he => hk (.inl he)))⟩
      · rw [hd] at hdj; cases hdj
        exact ⟨v, by simp [Act.put, hsz, hdn], fun _ => hGv⟩
theorem zc_drawS {id : Nat} {l : List Oper} (G : Nat → Value → World → Prop) (kill : Nat → Nat) (T : Array Bool → World → Prop) (e0 : Env) (hm : P.follows .mixedOrders = true) (hok : okDstS (e0.map Prod.fst) n l.toArray = true) (hfw : fwdS l.toArray = true) (hsub : Sub e0 e) (hT : ∀ w', Chg w w' No → w'.heap = w.heap → T (Array.replicate l.toArray.size false) w')
    (hstep : ∀ i, i < l.toArray.size → StepS P l.toArray n e0 G kill T Q i)
    (hfin : ∀ b a w', (∀ i, i < l.toArray.size → b.getD i false = true) → LkK l.toArray n e0 G (T b) (fun j => j < l.toArray.size) (fun j => ¬ l.toArray.size ≤ kill j) a w' → NP Q .normal a w') : ZC P n (.region id l.toArray true) e w Q := by
  unfold ZC
  intro a ha
  refine wp_mono (wp_region_any (Q := NP Q) hm ?_) NP.le
  refine wpAny_inv (fun b a w => (∀ k j, b.getD k false = true → waits l.toArray k j = true → b.getD j false = true) ∧ LkK l.toArray n e0 G (T b) (fun j => j < l.toArray.size ∧ b.getD j false = true) (fun j => b.getD (kill j) false = true) a w) ?_ ?_ _ _ _ _ (by simp) (by simp [List.count_replicate]) ?_
  · intro b a w i hsz hi ⟨hcl, h⟩
    obtain ⟨h0, o, ho, _⟩ := mem_ready.1 hi
    have hlt : i < l.toArray.size := (Array.getElem?_eq_some_iff.1 ho).1
    have hb : b.getD i false = false := by
      have h1 : i < b.size := by omega
      simpa [h1] using h0
    have hni : ¬ (i < l.toArray.size ∧ b.getD i false = true) := fun hh => by rw [hb] at hh; cases hh.2
    have hkl : ∀ j, (kill j = i ∨ l.toArray.size ≤ kill j) → b.getD (kill j) false = false := fun j hj => by
      rcases hj with hj | hj
      · rw [hj]; exact hb
      · have h' : b.size ≤ kill j := by omega
        simp [Array.getElem?_eq_none h']
    have hw := hstep i hlt b a w hsz hb hcl (fun j hj => waits_of hi hj) ⟨h.ok, h.t, fun j hj d hd => by
      obtain ⟨v, h1, h2⟩ := h.dep j ⟨by have := fwdS_lt hfw hj hlt; omega, waits_of hi hj⟩ d hd
      exact ⟨v, h1, fun hk => h2 (fun he => by rw [hkl j (Classical.not_not.1 hk)] at he; cases he)⟩⟩
    refine wpOp_mono (fun a' w' ⟨hG, hN, hT', hf⟩ => ⟨?_, ?_⟩) hw
    · intro k j hk hw'
      by_cases hj : j = i
      · subst hj
        have h3 : j < b.size := by omega
        simp [h3]
      · rw [gd_ne (Ne.symm hj)]
        by_cases hk' : k = i
        · subst hk'; exact waits_of hi hw'
        · rw [gd_ne (Ne.symm hk')] at hk
          exact hcl k j hk hw'
    · have := LkK.putS hok (fun j hj => hj.1) h hlt hni hG hN hT' hf
      refine ⟨this.ok, this.t, fun j hj dj hdj => ?_⟩
      obtain ⟨v, h1, h2⟩ := this.dep j (by
        by_cases hji : j = i
        · exact .inr hji
        · refine .inl ⟨hj.1, ?_⟩
          have := hj.2
          rwa [gd_ne (Ne.symm hji)] at this) dj hdj
      refine ⟨v, h1, fun hk => h2 (fun he => hk ?_)⟩
      rcases he with he | he
      · by_cases hki : i = kill j
        · rw [← hki] at he; rw [hb] at he; cases he
        · rw [gd_ne hki]; exact he
      · rw [he]
        have h3 : i < b.size := by omega
        simp [h3]
  · intro b a w hsz h0 ⟨hcl, h⟩
    have hlv := fwdS_live hfw hsz h0
    have hkl : ∀ j, l.toArray.size ≤ kill j → b.getD (kill j) false = false := fun j hj => by
      have h' : b.size ≤ kill j := by omega
      simp [Array.getElem?_eq_none h']
    exact hfin b a w hlv ⟨h.ok, h.t, fun j hj d hd => by
      obtain ⟨v, h1, h2⟩ := h.dep j ⟨hj, hlv j hj⟩ d hd
      exact ⟨v, h1, fun hk => h2 (fun he => by rw [hkl j (Classical.not_not.1 hk)] at he; cases he)⟩⟩
  · refine ⟨(by intro k j hk; rw [gd_rep] at hk; cases hk), ha.sub hsub, hT _ ⟨rfl, rfl, rfl, Nat.le_refl _, fun _ _ _ => rfl⟩ rfl, fun j hj => ?_⟩
    have := hj.2
    rw [gd_rep] at this; cases this
/-! one operation -/
variable {ops : Array Oper} {K : Act → World → Prop} {i : Nat} {o : Oper} {d : Tmp} {v : Value} {a : Act}
end
section
variable {P : Program} {n : Nat} {e : Env} {w : World} {Q : Exit → Act → World → Prop} {ops : Array Oper} {rest : List Oper}
variable {d : Tmp} {ty : TypeId} {pos : String} {aft : Array Edge} {g : Option (Nat × Bool)} {ks : List Nat} {S : World → Prop}
end
end Go.Z
