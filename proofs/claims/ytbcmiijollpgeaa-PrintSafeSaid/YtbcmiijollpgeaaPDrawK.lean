import Derived.Test.YtbcmiijollpgeaaPTab
/- A region that draws its order, where an operation may end what another told. Over any program. -/
namespace Go.Z
open Go
section
variable {P : Program} {n : Nat} {e : Env} {w : World} {Q : Exit → Act → World → Prop}
/-- what an operation may look at, where some things hold no more -/
structure LkK (ops : Array Oper) (n : Nat) (e0 : Env) (G : Nat → Value → World → Prop) (T : World → Prop) (D K : Nat → Prop) (a : Act) (w : World) : Prop where
  ok : Ok n e0 a
  t : T w
  dep : ∀ j, D j → ∀ d, dstOf ops j = some d → ∃ v, a.tmps[d]? = some v ∧ (¬ K j → G j v w)
/-- operation i; thing j holds till operation kill j has come -/
def StepK (P : Program) (ops : Array Oper) (n m : Nat) (e0 : Env) (G : Nat → Value → World → Prop) (kill : Nat → Nat) (T : Array Bool → World → Prop) (Q : Exit → Act → World → Prop) (i : Nat) : Prop :=
  ∀ b a w, b.size = ops.size → b.getD i false = false → (∀ k j, b.getD k false = true → waits ops k j = true → b.getD j false = true) → LkK ops n e0 G (T b) (fun j => waits ops i j = true) (fun j => ¬ (kill j = i ∨ m ≤ kill j)) a w → ∃ d, dstOf ops i = some d ∧ wpOp P ops (NP Q) i (fun a' w' => ∃ v, a' = a.put (some d) v ∧ G i v w' ∧ T (b.setIfInBounds i true) w' ∧ ∀ j u, j ≠ i → kill j ≠ i → G j u w → G j u w') a w
theorem LkK.put {ops : Array Oper} {e0 : Env} {G : Nat → Value → World → Prop} {kill : Nat → Nat} {T T' : World → Prop} {m : Nat} (hok : okDst (e0.map Prod.fst) n m ops = true) {D K : Nat → Prop} (hD : ∀ j, D j → j < m) {a : Act} {w w' : World} (h : LkK ops n e0 G T D K a w) {i : Nat} (hi : i < m) (hni : ¬ D i) {d : Tmp} (hd : dstOf ops i = some d) {v : Value}
    (hG : G i v w') (hT : T' w') (hf : ∀ j u, j ≠ i → kill j ≠ i → G j u w → G j u w') : LkK ops n e0 G T' (fun j => D j ∨ j = i) (fun j => K j ∨ kill j = i) (a.put (some d) v) w' := by
  obtain ⟨d', hd', hdn, hdk, hdo⟩ := okDst_at hok hi
  rw [hd] at hd'; cases hd'
  have hsz := h.ok.size
  refine ⟨⟨h.ok.defers, by simp [Act.put, hsz], fun k u hk => ?_⟩, hT, fun j hj dj hdj => ?_⟩
  · have hne : d ≠ k := fun he => hdk (he ▸ get_keys e0 k u hk)
    simp only [Act.put, Array.getElem?_setIfInBounds_ne hne]
    exact h.ok.at_ k u hk
  · rcases hj with hj | rfl
    · obtain ⟨u, h1, h2⟩ := h.dep j hj dj hdj
      have hne : d ≠ dj := fun he => hdo j (hD j hj) (fun hji => hni (hji ▸ hj)) (he ▸ hdj)
      exact ⟨u, by simp only [Act.put, Array.getElem?_setIfInBounds_ne hne]; exact h1, fun hk => hf j u (fun he => hni (he ▸ hj)) (fun he => hk (.inr he)) (h2 (fun he => hk (.inl he)))⟩
    · rw [hd] at hdj; cases hdj
      exact ⟨v, by simp [Act.put, hsz, hdn], fun _ => hG⟩
theorem zc_drawK {id : Nat} {l : List Oper} (m : Nat) (G : Nat → Value → World → Prop) (kill : Nat → Nat) (T : Array Bool → World → Prop) (e0 : Env) (hm : P.follows .mixedOrders = true) (hok : okDst (e0.map Prod.fst) n m l.toArray = true) (hfw : fwd l.toArray = true) (hsub : Sub e0 e) (hT : ∀ w', Chg w w' No → w'.heap = w.heap → T (Array.replicate l.toArray.size false) w')
    (hstep : ∀ i, i < m → StepK P l.toArray n m e0 G kill T Q i) (hmz : m ≤ l.toArray.size) (hlast : m < l.toArray.size → m + 1 = l.toArray.size ∧ lastOk l.toArray m = true)
    (hfin : ∀ b a w', LkK l.toArray n e0 G (T b) (fun j => j < m) (fun j => ¬ m ≤ kill j) a w' → if m < l.toArray.size then wpOp P l.toArray (NP Q) m (NP Q .normal) a w' else NP Q .normal a w') : ZC P n (.region id l.toArray true) e w Q := by
  unfold ZC
  intro a ha
  refine wp_mono (wp_region_any (Q := NP Q) hm ?_) NP.le
  refine wpAny_inv (fun b a w => (b.getD m false = false ∧ (∀ k j, b.getD k false = true → waits l.toArray k j = true → b.getD j false = true) ∧ LkK l.toArray n e0 G (T b) (fun j => j < m ∧ b.getD j false = true) (fun j => b.getD (kill j) false = true) a w) ∨ (b.getD m false = true ∧ (∀ j, j < m → b.getD j false = true) ∧ NP Q .normal a w)) ?_ ?_ _ _ _ _ (by simp) (by simp [List.count_replicate]) ?_
  · intro b a w i hsz hi h
    obtain ⟨h0, o, ho, _⟩ := mem_ready.1 hi
    have hlt : i < l.toArray.size := (Array.getElem?_eq_some_iff.1 ho).1
    have hb : b.getD i false = false := by
      have h1 : i < b.size := by omega
      simpa [h1] using h0
    rcases h with ⟨hbm, hcl, h⟩ | ⟨hbm, hall, _⟩
    · by_cases him : i < m
      · have hni : ¬ (i < m ∧ b.getD i false = true) := fun hh => by rw [hb] at hh; cases hh.2
        have hjm : ∀ j, waits l.toArray i j = true → j < m := fun j hj => by
          have hfi := List.all_eq_true.1 hfw i (List.mem_range.2 hlt)
          simp only [ho] at hfi
          simp only [waits, ho] at hj
          obtain ⟨e, he, hbe⟩ := Array.any_eq_true'.1 hj
          simp only [Bool.and_eq_true, beq_iff_eq] at hbe
          have h3 := Array.all_eq_true_iff_forall_mem.1 hfi e he
          have h4 : e.on < i := by simpa using h3
          omega
        have hkl : ∀ j, (kill j = i ∨ m ≤ kill j) → b.getD (kill j) false = false := fun j hj => by
          rcases hj with hj | hj
          · rw [hj]; exact hb
          · rcases Nat.lt_or_ge (kill j) b.size with h' | h'
            · have : kill j = m := by
                have := hlast (by omega)
                omega
              rw [this]; exact hbm
            · simp [Array.getElem?_eq_none h']
        obtain ⟨d, hd, hw⟩ := hstep i him b a w hsz hb hcl ⟨h.ok, h.t, fun j hj d hd => by
          obtain ⟨v, h1, h2⟩ := h.dep j ⟨hjm j hj, waits_of hi hj⟩ d hd
          exact ⟨v, h1, fun hk => h2 (fun he => by rw [hkl j (Classical.not_not.1 hk)] at he; cases he)⟩⟩
        refine wpOp_mono (fun a' w' ⟨v, ha', hG, hT', hf⟩ => .inl ⟨?_, ?_, ?_⟩) hw
        · rw [gd_ne (show i ≠ m by omega)]; exact hbm
        · intro k j hk hw'
          have hji : j ≠ i → (b.setIfInBounds i true).getD j false = b.getD j false := fun h => gd_ne (Ne.symm h) false
          by_cases hj : j = i
          · subst hj
            have h3 : j < b.size := by omega
            simp [h3]
          · rw [hji hj]
            by_cases hk' : k = i
            · subst hk'; exact waits_of hi hw'
            · rw [gd_ne (Ne.symm hk')] at hk
              exact hcl k j hk hw'
        · subst ha'
          have := LkK.put hok (fun j hj => hj.1) h him hni hd hG hT' hf
          refine ⟨this.ok, this.t, fun j hj dj hdj => ?_⟩
          obtain ⟨v, h1, h2⟩ := this.dep j (by
            by_cases hji : j = i
            · exact .inr hji
            · refine .inl ⟨hj.1, ?_⟩
              have := hj.2
              rwa [gd_ne (Ne.symm hji)] at this) dj hdj
          refine ⟨v, h1, fun hk => h2 (fun he => hk ?_)⟩
          rcases he with he | he
          · by_cases hki : i = kill j
            · rw [← hki] at he; rw [hb] at he; cases he
            · rw [gd_ne hki]; exact he
          · rw [he]
            have h3 : i < b.size := by omega
            simp [h3]
      · have hml : m < l.toArray.size := by omega
        obtain ⟨h5, h6⟩ := hlast hml
        obtain rfl : i = m := by omega
        have hall : ∀ j, j < i → b.getD j false = true := fun j hj => waits_of hi (List.all_eq_true.1 h6 j (List.mem_range.2 hj))
        have hkl : ∀ j, i ≤ kill j → b.getD (kill j) false = false := fun j hj => by
          rcases Nat.lt_or_ge (kill j) b.size with h' | h'
          · have : kill j = i := by omega
            rw [this]; exact hbm
          · simp [Array.getElem?_eq_none h']
        have h7 := hfin b a w ⟨h.ok, h.t, fun j hj d hd => by
          obtain ⟨v, h1, h2⟩ := h.dep j ⟨hj, hall j hj⟩ d hd
          exact ⟨v, h1, fun hk => h2 (fun he => by rw [hkl j (Classical.not_not.1 hk)] at he; cases he)⟩⟩
        rw [if_pos hml] at h7
        refine wpOp_mono (fun a' w' hq => .inr ⟨?_, fun j hj => ?_, hq⟩) h7
        · have h1 : i < b.size := by omega
          simp [h1]
        · have := hall j hj
          rwa [gd_ne (show i ≠ j by omega)]
    · exfalso
      rcases Nat.lt_trichotomy i m with h1 | h1 | h1
      · rw [hall i h1] at hb; cases hb
      · subst h1; rw [hbm] at hb; cases hb
      · have := (hlast (by omega)).1; omega
  · intro b a w hsz h0 h
    rcases h with ⟨hbm, _, h⟩ | ⟨_, _, hq⟩
    · have hlv := fwd_live hfw hsz h0
      have hml : ¬ m < l.toArray.size := fun hh => by
        have := hlv m hh
        rw [hbm] at this; cases this
      have hkl : ∀ j, m ≤ kill j → b.getD (kill j) false = false := fun j hj => by
        have h' : b.size ≤ kill j := by omega
        simp [Array.getElem?_eq_none h']
      have := hfin b a w ⟨h.ok, h.t, fun j hj d hd => by
        obtain ⟨v, h1, h2⟩ := h.dep j ⟨hj, hlv j (by omega)⟩ d hd
        exact ⟨v, h1, fun hk => h2 (fun he => by rw [hkl j (Classical.not_not.1 hk)] at he; cases he)⟩⟩
      rwa [if_neg hml] at this
    · exact hq
  · refine .inl ⟨gd_rep _ _, (by intro k j hk; rw [gd_rep] at hk; cases hk), ha.sub hsub, hT _ ⟨rfl, rfl, rfl, Nat.le_refl _, fun _ _ _ => rfl⟩ rfl, fun j hj => ?_⟩
    have := hj.2
    rw [gd_rep] at this; cases this
end
end Go.Z
