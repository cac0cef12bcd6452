import Derived.Test.YteeibieaapiomaaDDoc2
/- What calls do to nodes: plain lists; what stays true of them. -/
namespace Go.Proofs.Yteeibieaapiomaa.D
open Go Go.Z Go.Proofs
set_option linter.unusedVariables false
theorem nodup_le : ∀ (n : Nat) (l : List Nat), l.Nodup → (∀ k ∈ l, k < n) → l.length ≤ n
  | 0, l, _, h => by
    cases l with
    | nil => simp
    | cons a r => exact absurd (h a (by simp)) (by omega)
  | n + 1, l, hd, h => by
    have h1 := nodup_le n (l.erase n) (hd.erase n) (fun k hk => by
      have hk1 := List.mem_of_mem_erase hk
      have := h k hk1
      have hne : k ≠ n := fun he => by subst he; exact hd.not_mem_erase hk
      omega)
    have h2 := @List.le_length_erase _ _ _ n l
    omega
theorem WF.kids_len {N : List ND} (h : WF N) {i : Nat} (hi : i < N.length) : (N.getD i n0).kids.length ≤ N.length :=
  nodup_le _ _ (h.nodup i hi) (fun k hk => ((h.kid i k hi).1 hk).1)
theorem getD_snoc {α : Type} (N : List α) (x d : α) (i : Nat) : (N ++ [x]).getD i d = if i = N.length then x else N.getD i d := by
  rw [List.getD_eq_getElem?_getD, List.getD_eq_getElem?_getD, List.getElem?_append]
  by_cases h : i < N.length
  · rw [if_pos h, if_neg (by omega)]
  · rw [if_neg h]
    by_cases h2 : i = N.length
    · subst h2; simp
    · rw [if_neg h2, List.getElem?_eq_none (by simp; omega), List.getElem?_eq_none (by omega)]
theorem getD_add (N : List ND) (x : ND) (i : Nat) : (N ++ [x]).getD i n0 = if i = N.length then x else N.getD i n0 := getD_snoc N x n0 i
theorem WF.add {N : List ND} (h : WF N) {x : ND} (hu : x.up = -1) (hk : x.kids = []) : WF (N ++ [x]) := by
  have hp := h.pos
  have key : ∀ i, i < (N ++ [x]).length → i ≠ N.length → i < N.length := fun i hi hn => by simp at hi; omega
  refine ⟨by simp, ?_, ?_, ?_, ?_, ?_, ?_⟩
  · rw [getD_add, if_neg (by omega)]; exact h.root
  · rw [getD_add, if_neg (by omega)]; exact h.rootk
  · intro i hi
    rw [getD_add]
    split
    · rw [hu]; rw [List.length_append, List.length_singleton]; omega
    · have := h.up i (key i hi (by assumption)); refine ⟨this.1, ?_⟩; rw [List.length_append, List.length_singleton]; omega
  · intro i k hi
    rw [getD_add, getD_add]
    by_cases h1 : i = N.length
    · rw [if_pos h1, hk]
      refine iff_of_false (by simp) ?_
      rintro ⟨h2, h3⟩
      split at h3
      · rw [hu] at h3; omega
      · have := (h.up k (key k h2 (by assumption))).2; omega
    · rw [if_neg h1, h.kid i k (key i hi h1)]
      by_cases h2 : k = N.length
      · rw [if_pos h2, hu]; exact iff_of_false (by omega) (by omega)
      · rw [if_neg h2, List.length_append, List.length_singleton]
        exact ⟨fun h => ⟨by omega, h.2⟩, fun h => ⟨by omega, h.2⟩⟩
  · intro i hi
    rw [getD_add]
    split
    · rw [hk]; simp
    · exact h.nodup i (key i hi (by assumption))
  · obtain ⟨d, hd⟩ := h.rank
    refine ⟨d, fun i hi j hj => ?_⟩
    rw [getD_add] at hj
    split at hj
    · rw [hu] at hj; omega
    · exact hd i (key i hi (by assumption)) j hj
theorem WF.congr {N N' : List ND} (h : WF N) (hl : N'.length = N.length) (hu : ∀ i, (N'.getD i n0).up = (N.getD i n0).up) (hk : ∀ i, (N'.getD i n0).kids = (N.getD i n0).kids) (h0 : (N'.getD 0 n0).kind = (N.getD 0 n0).kind) : WF N' := by
  refine ⟨by rw [hl]; exact h.pos, by rw [hu]; exact h.root, by rw [h0]; exact h.rootk, ?_, ?_, ?_, ?_⟩
  · intro i hi; rw [hu, hl]; exact h.up i (by omega)
  · intro i k hi; rw [hu, hl, hk]; exact h.kid i k (by omega)
  · intro i hi; rw [hk]; exact h.nodup i (by omega)
  · obtain ⟨d, hd⟩ := h.rank
    exact ⟨d, fun i hi j hj => hd i (by omega) j (by rw [← hu]; exact hj)⟩
theorem Anc.rank {N : List ND} (h : WF N) {d : Nat → Nat} (hd : ∀ i, i < N.length → ∀ j : Nat, (N.getD i n0).up = j → d j < d i) {n top : Nat} (ha : Anc N n top) (hn : n < N.length) : d top ≤ d n := by
  induction ha with
  | refl n => exact Nat.le_refl _
  | step n m top hu ha ih =>
    have hm : m < N.length := by have := (h.up n hn).2; omega
    have := hd n hn m hu
    have := ih hm
    omega
theorem Anc.trans {N : List ND} {a b c : Nat} (h1 : Anc N a b) (h2 : Anc N b c) : Anc N a c := by
  induction h1 with
  | refl n => exact h2
  | step n m top hu ha ih => exact .step n m c hu (ih h2)
theorem Anc.lin {N : List ND} {i a b : Nat} (h1 : Anc N i a) (h2 : Anc N i b) : Anc N a b ∨ Anc N b a := by
  induction h1 with
  | refl n => exact .inl h2
  | step n m top hu ha ih =>
    cases h2 with
    | refl => exact .inr (.step _ m top hu ha)
    | step _ m' _ hu' ha' =>
      have : m' = m := by rw [hu] at hu'; omega
      subst this; exact ih ha'
/-! a node put in -/
def insK (K : List Nat) (at_ n : Nat) : List Nat := K.take at_ ++ n :: K.drop at_
theorem insK_mem {K : List Nat} {a n k : Nat} : k ∈ insK K a n ↔ k = n ∨ k ∈ K := by
  unfold insK
  have : K = K.take a ++ K.drop a := (List.take_append_drop a K).symm
  conv => rhs; rw [this]
  simp only [List.mem_append, List.mem_cons]
  constructor
  · rintro (h | h | h)
    · exact .inr (.inl h)
    · exact .inl h
    · exact .inr (.inr h)
  · rintro (h | h | h)
    · exact .inr (.inl h)
    · exact .inl h
    · exact .inr (.inr h)
theorem insK_nodup {K : List Nat} {a n : Nat} (h : K.Nodup) (hn : n ∉ K) : (insK K a n).Nodup := by
  unfold insK
  rw [(List.perm_middle (a := n) (l₁ := K.take a) (l₂ := K.drop a)).nodup_iff, List.take_append_drop]
  exact List.nodup_cons.2 ⟨hn, h⟩
def layN (N : List ND) (n up at_ : Nat) : List ND := (N.set up { N.getD up n0 with kids := insK (N.getD up n0).kids at_ n }).set n { N.getD n n0 with up := up }
theorem layN_len (N : List ND) (n up a : Nat) : (layN N n up a).length = N.length := by simp [layN]
theorem layN_get {N : List ND} {n up a : Nat} (hn : n < N.length) (hu : up < N.length) (i : Nat) : (layN N n up a).getD i n0 = if i = n then { N.getD n n0 with up := up } else if i = up then { N.getD up n0 with kids := insK (N.getD up n0).kids a n } else N.getD i n0 := by
  unfold layN
  rw [getD_set _ _ _ _ _ (by simpa using hn), getD_set _ _ _ _ _ hu]
theorem WF.lay {N : List ND} (h : WF N) {n up : Nat} (a : Nat) (hn : n < N.length) (hu : up < N.length) (h0 : (N.getD n n0).up = -1) (hna : ¬ Anc N up n) (hr : n ≠ 0) : WF (layN N n up a) := by
  have hne : n ≠ up := fun he => hna (he ▸ Anc.refl n)
  have eu : ∀ i, ((layN N n up a).getD i n0).up = if i = n then (up : Int) else (N.getD i n0).up := fun i => by
    rw [layN_get hn hu]
    split
    · rfl
    · split
      · rename_i h1; rw [h1]
      · rfl
  have ek : ∀ i, ((layN N n up a).getD i n0).kids = if i = up then insK (N.getD up n0).kids a n else (N.getD i n0).kids := fun i => by
    rw [layN_get hn hu]
    by_cases h1 : i = n
    · rw [if_pos h1, if_neg (by omega), h1]
    · rw [if_neg h1]; split <;> rfl
  have hnk : n ∉ (N.getD up n0).kids := fun hm => by
    have := ((h.kid up n hu).1 hm).2; omega
  refine ⟨by rw [layN_len]; exact h.pos, ?_, ?_, ?_, ?_, ?_, ?_⟩
  · rw [eu, if_neg (fun he => hr he.symm)]; exact h.root
  · rw [layN_get hn hu, if_neg (fun he => hr he.symm)]
    split
    · rename_i h1; have := h.rootk; rw [h1] at this; exact this
    · exact h.rootk
  · intro i hi
    rw [layN_len] at hi ⊢
    rw [eu]
    split
    · omega
    · exact h.up i hi
  · intro i k hi
    rw [layN_len] at hi ⊢
    rw [eu, ek]
    by_cases h1 : i = up
    · rw [if_pos h1, insK_mem, h.kid up k hu]
      by_cases h2 : k = n
      · rw [if_pos h2]; exact iff_of_true (.inl h2) ⟨by omega, by omega⟩
      · rw [if_neg h2, h1]
        constructor
        · rintro (h3 | h3)
          · exact absurd h3 h2
          · exact h3
        · exact fun h3 => .inr h3
    · rw [if_neg h1, h.kid i k hi]
      by_cases h2 : k = n
      · rw [if_pos h2, h2, h0]; exact iff_of_false (by omega) (by omega)
      · rw [if_neg h2]
  · intro i hi
    rw [layN_len] at hi
    rw [ek]
    split
    · exact insK_nodup (h.nodup up hu) hnk
    · exact h.nodup i hi
  · obtain ⟨d, hd⟩ := h.rank
    classical
    refine ⟨fun i => if Anc N i n then d i + d up + 1 else d i, fun i hi j hj => ?_⟩
    rw [layN_len] at hi
    rw [eu] at hj
    dsimp only
    split at hj
    · rename_i h1
      have : j = up := by omega
      subst this
      rw [if_neg hna, if_pos (by rw [h1]; exact Anc.refl n)]; omega
    · rename_i h1
      have h2 := hd i hi j hj
      by_cases h3 : Anc N j n
      · rw [if_pos h3, if_pos (.step i j n hj h3)]; omega
      · rw [if_neg h3, if_neg]
        · exact h2
        · intro h4
          cases h4 with
          | refl => exact h1 rfl
          | step _ m _ hu' ha' =>
            have : m = j := by rw [hj] at hu'; omega
            subst this; exact h3 ha'
/-! a node taken -/
theorem split_at {K : List Nat} {i a : Nat} (hi : i < K.length) (ha : K.getD i 0 = a) : K = K.take i ++ a :: K.drop (i + 1) := by
  subst ha
  rw [List.getD_eq_getElem?_getD, List.getElem?_eq_getElem hi]
  simp
theorem findK_eq {K : List Nat} (h : K.Nodup) {a i : Nat} (hi : i < K.length) (ha : K.getD i 0 = a) : ∀ n, i < n → n ≤ K.length → findK K a n = some i
  | 0, h1, _ => by omega
  | n + 1, h1, h2 => by
    unfold findK
    by_cases he : i = n
    · subst he; rw [if_pos ha]
    · rw [if_neg, findK_eq h hi ha n (by omega) (by omega)]
      intro hh
      exact he ((List.getD_inj hi (by omega) h).1 (ha.trans hh.symm))
theorem findK_mem {K : List Nat} (h : K.Nodup) {a : Nat} (ha : a ∈ K) : ∃ i, i < K.length ∧ K.getD i 0 = a ∧ findK K a K.length = some i := by
  obtain ⟨i, hi, he⟩ := List.getElem_of_mem ha
  have e : K.getD i 0 = a := by rw [List.getD_eq_getElem?_getD, List.getElem?_eq_getElem hi]; exact he
  exact ⟨i, hi, e, findK_eq h hi e _ hi (Nat.le_refl _)⟩
def delK (K : List Nat) (n : Nat) : List Nat := match findK K n K.length with
  | some i => K.take i ++ K.drop (i + 1)
  | none => K
theorem delK_perm {K : List Nat} (h : K.Nodup) {n : Nat} (hn : n ∈ K) : K.Perm (n :: delK K n) := by
  obtain ⟨i, hi, he, hf⟩ := findK_mem h hn
  unfold delK
  rw [hf]
  conv => lhs; rw [split_at hi he]
  exact List.perm_middle
def takeN (N : List ND) (n : Nat) : List ND := (N.set (N.getD n n0).up.toNat { N.getD (N.getD n n0).up.toNat n0 with kids := delK (N.getD (N.getD n n0).up.toNat n0).kids n }).set n { N.getD n n0 with up := -1 }
theorem takeN_len (N : List ND) (n : Nat) : (takeN N n).length = N.length := by simp [takeN]
theorem takeN_get {N : List ND} {n u : Nat} (hn : n < N.length) (hu : u < N.length) (he : (N.getD n n0).up = u) (i : Nat) : (takeN N n).getD i n0 = if i = n then { N.getD n n0 with up := -1 } else if i = u then { N.getD u n0 with kids := delK (N.getD u n0).kids n } else N.getD i n0 := by
  unfold takeN
  rw [he]
  rw [getD_set _ _ _ _ _ (by simpa using hn)]
  simp only [Int.toNat_natCast]
  rw [getD_set _ _ _ _ _ hu]
theorem WF.take {N : List ND} (h : WF N) {n u : Nat} (hn : n < N.length) (he : (N.getD n n0).up = u) : WF (takeN N n) := by
  have hu : u < N.length := by have := (h.up n hn).2; omega
  obtain ⟨d, hd⟩ := h.rank
  have hne : n ≠ u := fun hh => by have := hd n hn u he; subst hh; omega
  have eu : ∀ i, ((takeN N n).getD i n0).up = if i = n then (-1 : Int) else (N.getD i n0).up := fun i => by
    rw [takeN_get hn hu he]
    split
    · rfl
    · split
      · rename_i h1; rw [h1]
      · rfl
  have ek : ∀ i, ((takeN N n).getD i n0).kids = if i = u then delK (N.getD u n0).kids n else (N.getD i n0).kids := fun i => by
    rw [takeN_get hn hu he]
    by_cases h1 : i = n
    · rw [if_pos h1, if_neg (by omega), h1]
    · rw [if_neg h1]; split <;> rfl
  have hnk : n ∈ (N.getD u n0).kids := (h.kid u n hu).2 ⟨hn, he⟩
  have hp := delK_perm (h.nodup u hu) hnk
  have hdn := List.nodup_cons.1 (hp.nodup_iff.1 (h.nodup u hu))
  have hn0 : n ≠ 0 := fun hh => by subst hh; have := h.root; omega
  refine ⟨by rw [takeN_len]; exact h.pos, ?_, ?_, ?_, ?_, ?_, ?_⟩
  · rw [eu, if_neg (fun he => hn0 he.symm)]; exact h.root
  · rw [takeN_get hn hu he, if_neg (fun he => hn0 he.symm)]
    split
    · rename_i h1; have := h.rootk; rw [h1] at this; exact this
    · exact h.rootk
  · intro i hi
    rw [takeN_len] at hi ⊢
    rw [eu]
    split
    · have := h.pos; omega
    · exact h.up i hi
  · intro i k hi
    rw [takeN_len] at hi ⊢
    rw [eu, ek]
    by_cases h1 : i = u
    · rw [if_pos h1]
      have h3 := h.kid u k hu
      rw [hp.mem_iff, List.mem_cons] at h3
      by_cases h2 : k = n
      · rw [if_pos h2, h2]; exact iff_of_false hdn.1 (by omega)
      · rw [if_neg h2, h1, ← h3]
        exact ⟨fun hh => .inr hh, fun hh => hh.resolve_left h2⟩
    · rw [if_neg h1, h.kid i k hi]
      by_cases h2 : k = n
      · rw [if_pos h2, h2, he]; exact iff_of_false (by omega) (by omega)
      · rw [if_neg h2]
  · intro i hi
    rw [takeN_len] at hi
    rw [ek]
    split
    · exact hdn.2
    · exact h.nodup i hi
  · refine ⟨d, fun i hi j hj => ?_⟩
    rw [takeN_len] at hi
    rw [eu] at hj
    split at hj
    · omega
    · exact hd i hi j hj
/-! kids moved -/
def upsN (N : List ND) : List Nat → Nat → List ND
  | [], _ => N
  | k :: r, b => upsN (N.set k { N.getD k n0 with up := b }) r b
theorem upsN_len : ∀ (ks : List Nat) (N : List ND) (b : Nat), (upsN N ks b).length = N.length
  | [], N, b => rfl
  | k :: r, N, b => by unfold upsN; rw [upsN_len r]; simp
theorem upsN_get : ∀ (ks : List Nat) (N : List ND) (b : Nat), (∀ k ∈ ks, k < N.length) → ∀ i, (upsN N ks b).getD i n0 = if i ∈ ks then { N.getD i n0 with up := b } else N.getD i n0
  | [], N, b, _, i => by simp [upsN]
  | k :: r, N, b, h, i => by
    unfold upsN
    rw [upsN_get r _ b (fun j hj => by rw [List.length_set]; exact h j (by simp [hj])) i, getD_set _ _ _ _ _ (h k (by simp))]
    by_cases h1 : i = k
    · subst h1; simp
    · rw [if_neg h1]; simp only [List.mem_cons, h1, false_or]
def moveN (N : List ND) (a b : Nat) : List ND :=
  ((upsN N (N.getD a n0).kids b).set b { (upsN N (N.getD a n0).kids b).getD b n0 with kids := (N.getD b n0).kids ++ (N.getD a n0).kids }).set a { (upsN N (N.getD a n0).kids b).getD a n0 with kids := [] }
theorem moveN_len (N : List ND) (a b : Nat) : (moveN N a b).length = N.length := by simp [moveN, upsN_len]
theorem WF.move {N : List ND} (h : WF N) {a b : Nat} (ha : a < N.length) (hb : b < N.length) (hna : ¬ Anc N b a) : WF (moveN N a b) := by
  have hne : a ≠ b := fun he => hna (he ▸ Anc.refl a)
  have hlt : ∀ k ∈ (N.getD a n0).kids, k < N.length := fun k hk => ((h.kid a k ha).1 hk).1
  have hsame : ∀ i, ((upsN N (N.getD a n0).kids b).getD i n0) = if i ∈ (N.getD a n0).kids then { N.getD i n0 with up := b } else N.getD i n0 := upsN_get _ _ _ hlt
  have hmem : ∀ i, i < N.length → (i ∈ (N.getD a n0).kids ↔ (N.getD i n0).up = a) := fun i hi => by
    rw [h.kid a i ha]; exact ⟨fun h => h.2, fun h => ⟨hi, h⟩⟩
  have get : ∀ i, (moveN N a b).getD i n0 = if i = a then { (upsN N (N.getD a n0).kids b).getD a n0 with kids := [] } else if i = b then { (upsN N (N.getD a n0).kids b).getD b n0 with kids := (N.getD b n0).kids ++ (N.getD a n0).kids } else (upsN N (N.getD a n0).kids b).getD i n0 := fun i => by
    unfold moveN
    rw [getD_set _ _ _ _ _ (by simpa [upsN_len] using ha), getD_set _ _ _ _ _ (by simpa [upsN_len] using hb)]
  have eu : ∀ i, i < N.length → ((moveN N a b).getD i n0).up = if (N.getD i n0).up = a then (b : Int) else (N.getD i n0).up := fun i hi => by
    have h1 : ((moveN N a b).getD i n0).up = ((upsN N (N.getD a n0).kids b).getD i n0).up := by
      rw [get]
      split
      · rename_i h1; rw [h1]
      · split
        · rename_i h1; rw [h1]
        · rfl
    rw [h1, hsame]
    by_cases h2 : i ∈ (N.getD a n0).kids
    · rw [if_pos h2, if_pos ((hmem i hi).1 h2)]
    · rw [if_neg h2, if_neg (fun hh => h2 ((hmem i hi).2 hh))]
  have ek : ∀ i, ((moveN N a b).getD i n0).kids = if i = a then [] else if i = b then (N.getD b n0).kids ++ (N.getD a n0).kids else (N.getD i n0).kids := fun i => by
    rw [get]
    split
    · rfl
    · split
      · rfl
      · rw [hsame]; split <;> rfl
  have ekd : ∀ i, ((moveN N a b).getD i n0).kind = (N.getD i n0).kind := fun i => by
    rw [get]
    split
    · rename_i h1; rw [hsame, h1]; split <;> rfl
    · split
      · rename_i h1; rw [hsame, h1]; split <;> rfl
      · rw [hsame]; split <;> rfl
  obtain ⟨d, hd⟩ := h.rank
  refine ⟨by rw [moveN_len]; exact h.pos, ?_, ?_, ?_, ?_, ?_, ?_⟩
  · rw [eu 0 h.pos, h.root, if_neg (by omega)]
  · rw [ekd]; exact h.rootk
  · intro i hi
    rw [moveN_len] at hi ⊢
    rw [eu i hi]
    split
    · omega
    · exact h.up i hi
  · intro i k hi
    rw [moveN_len] at hi ⊢
    rw [ek]
    have hku : k < N.length → ((moveN N a b).getD k n0).up = if (N.getD k n0).up = a then (b : Int) else (N.getD k n0).up := eu k
    by_cases h1 : i = a
    · rw [if_pos h1]
      refine iff_of_false (by simp) ?_
      rintro ⟨h2, h3⟩
      rw [hku h2] at h3
      split at h3 <;> omega
    · rw [if_neg h1]
      by_cases h2 : i = b
      · rw [if_pos h2, List.mem_append, h.kid b k hb, h.kid a k ha]
        constructor
        · rintro (⟨h3, h4⟩ | ⟨h3, h4⟩)
          · exact ⟨h3, by rw [hku h3, if_neg (by omega)]; omega⟩
          · exact ⟨h3, by rw [hku h3, if_pos h4]; omega⟩
        · rintro ⟨h3, h4⟩
          rw [hku h3] at h4
          split at h4
          · exact .inr ⟨h3, by assumption⟩
          · exact .inl ⟨h3, by omega⟩
      · rw [if_neg h2, h.kid i k hi]
        constructor
        · rintro ⟨h3, h4⟩
          exact ⟨h3, by rw [hku h3, if_neg (by omega)]; exact h4⟩
        · rintro ⟨h3, h4⟩
          rw [hku h3] at h4
          split at h4
          · omega
          · exact ⟨h3, h4⟩
  · intro i hi
    rw [moveN_len] at hi
    rw [ek]
    split
    · simp
    · split
      · refine List.nodup_append.2 ⟨h.nodup b hb, h.nodup a ha, fun x hx y hy hxy => ?_⟩
        subst hxy
        have := ((h.kid b x hb).1 hx).2
        have := ((h.kid a x ha).1 hy).2
        omega
      · exact h.nodup i hi
  · classical
    refine ⟨fun i => if i ≠ a ∧ Anc N i a then d i + d b + 1 else d i, fun i hi j hj => ?_⟩
    rw [moveN_len] at hi
    rw [eu i hi] at hj
    have hda := hd a ha
    dsimp only
    split at hj
    · rename_i h1
      have : j = b := by omega
      subst this
      have h3 := hd i hi a h1
      rw [if_neg (fun hh => hna hh.2), if_pos ⟨fun hh => by subst hh; omega, .step i a a h1 (Anc.refl a)⟩]
      omega
    · rename_i h1
      have h2 := hd i hi j hj
      by_cases h3 : j ≠ a ∧ Anc N j a
      · rw [if_pos h3, if_pos ⟨fun hh => by
          subst hh
          have := Anc.rank h hd h3.2 (by have := (h.up i hi).2; omega)
          omega, .step i j a hj h3.2⟩]
        omega
      · rw [if_neg h3, if_neg]
        · exact h2
        · rintro ⟨h4, h5⟩
          cases h5 with
          | refl => exact h4 rfl
          | step _ m _ hu' ha' =>
            have : m = j := by rw [hj] at hu'; omega
            subst this
            exact h3 ⟨fun hh => by subst hh; exact h1 hj, ha'⟩
/-! all below -/
def hdOf (x : ND) : Hd := ⟨x.kind, x.space, x.name, x.attrs, bs x.text, 0⟩
inductive TF (N : List ND) : List Nat → NT → Prop
  | nil : TF N [] .nil
  | cons (k : Nat) (r : List Nat) (tk tr : NT) : TF N (N.getD k n0).kids tk → TF N r tr → TF N (k :: r) (.cons (hdOf (N.getD k n0)) tk tr)
theorem TF.det {N : List ND} {ks : List Nat} {t : NT} (h : TF N ks t) : ∀ {t' : NT}, TF N ks t' → t = t' := by
  induction h with
  | nil => intro t' h'; cases h'; rfl
  | cons k r tk tr _ _ ih1 ih2 =>
    intro t' h'
    cases h' with
    | cons _ _ tk' tr' h1 h2 => rw [ih1 h1, ih2 h2]
theorem TF.len {N : List ND} {ks : List Nat} {t : NT} (h : TF N ks t) : t.len = ks.length := by
  induction h with
  | nil => rfl
  | cons k r tk tr _ _ ih1 ih2 => simp [NT.len, ih2]
theorem TF.few {N : List ND} {ks : List Nat} {t : NT} (h : TF N ks t) (ha : ∀ i, (N.getD i n0).attrs.length ≤ 100000) : FewT t := by
  induction h with
  | nil => trivial
  | cons k r tk tr _ _ ih1 ih2 => exact ⟨ha k, ih1, ih2⟩
theorem TF.drop {N : List ND} {ks : List Nat} {t : NT} (h : TF N ks t) : ∀ i, TF N (ks.drop i) (t.dropN i) := by
  induction h with
  | nil => intro i; cases i <;> exact .nil
  | cons k r tk tr h1 h2 ih1 ih2 =>
    intro i
    cases i with
    | zero => exact .cons k r tk tr h1 h2
    | succ i => exact ih2 i
theorem max_ex (d : Nat → Nat) : ∀ n, ∃ M, ∀ i, i < n → d i ≤ M
  | 0 => ⟨0, fun i hi => by omega⟩
  | n + 1 => by
    obtain ⟨M, hM⟩ := max_ex d n
    refine ⟨M + d n, fun i hi => ?_⟩
    by_cases h : i = n
    · subst h; omega
    · have := hM i (by omega); omega
theorem WF.tree {N : List ND} (h : WF N) : ∀ ks : List Nat, (∀ k ∈ ks, k < N.length) → ∃ t, TF N ks t := by
  obtain ⟨d, hd⟩ := h.rank
  obtain ⟨M, hM⟩ := max_ex d N.length
  have key : ∀ m : Nat, ∀ ks : List Nat, (∀ k ∈ ks, k < N.length ∧ M - d k < m) → ∃ t, TF N ks t := by
    intro m
    induction m with
    | zero =>
      intro ks hk
      cases ks with
      | nil => exact ⟨_, .nil⟩
      | cons k r => exact absurd (hk k (by simp)).2 (by omega)
    | succ m ih =>
      intro ks
      induction ks with
      | nil => intro _; exact ⟨_, .nil⟩
      | cons k r ihr =>
        intro hk
        obtain ⟨tr, hr⟩ := ihr (fun j hj => hk j (by simp [hj]))
        have h1 := hk k (by simp)
        obtain ⟨tk, ht⟩ := ih (N.getD k n0).kids (fun j hj => by
          obtain ⟨h2, h3⟩ := (h.kid k j h1.1).1 hj
          have := hd j h2 k h3
          have := hM j h2
          exact ⟨h2, by omega⟩)
        exact ⟨_, .cons k r tk tr ht hr⟩
  exact fun ks hk => key (M + 1) ks (fun k hk' => ⟨hk k hk', by omega⟩)
theorem TF.ids {N : List ND} (h : WF N) {ks : List Nat} {t : NT} (ht : TF N ks t) : (∀ k ∈ ks, k < N.length) →
    ∃ l : List Nat, l.length = t.size ∧ (∀ i ∈ l, i < N.length ∧ ∃ k ∈ ks, Anc N i k) ∧ ∀ p : Nat, ks.Nodup → (∀ k ∈ ks, (N.getD k n0).up = p) → l.Nodup := by
  obtain ⟨d, hd⟩ := h.rank
  have sib : ∀ {k k' p : Nat}, k < N.length → k' < N.length → (N.getD k n0).up = (p : Nat) → (N.getD k' n0).up = (p : Nat) → Anc N k k' → k = k' := fun {k k' p} hk hk' h1 h2 ha => by
    cases ha with
    | refl => rfl
    | step _ m _ hu ha =>
      have : m = p := by rw [h1] at hu; omega
      subst this
      have := Anc.rank h hd ha (by have := (h.up k hk).2; omega)
      have := hd k' hk' m h2
      omega
  induction ht with
  | nil => exact fun _ => ⟨[], rfl, by simp, by simp⟩
  | cons k r tk tr h1 h2 ih1 ih2 =>
    intro hlt
    have hk := hlt k (by simp)
    obtain ⟨l1, a1, b1, c1⟩ := ih1 (fun j hj => ((h.kid k j hk).1 hj).1)
    obtain ⟨l2, a2, b2, c2⟩ := ih2 (fun j hj => hlt j (by simp [hj]))
    have b1' : ∀ i ∈ l1, i < N.length ∧ Anc N i k ∧ i ≠ k := fun i hi => by
      obtain ⟨h3, j, hj, h4⟩ := b1 i hi
      obtain ⟨h5, h6⟩ := (h.kid k j hk).1 hj
      refine ⟨h3, h4.trans (.step j k k h6 (Anc.refl k)), fun he => ?_⟩
      have := Anc.rank h hd h4 h3
      have := hd j h5 k h6
      rw [he] at *
      omega
    refine ⟨k :: (l1 ++ l2), by simp [NT.size, a1, a2], ?_, ?_⟩
    · intro i hi
      simp only [List.mem_cons, List.mem_append] at hi
      rcases hi with rfl | hi | hi
      · exact ⟨hk, i, by simp, Anc.refl i⟩
      · exact ⟨(b1' i hi).1, k, by simp, (b1' i hi).2.1⟩
      · obtain ⟨h3, j, hj, h4⟩ := b2 i hi
        exact ⟨h3, j, by simp [hj], h4⟩
    · intro p hnd hp
      have hnd' := List.nodup_cons.1 hnd
      have hkp := hp k (by simp)
      have dis : ∀ i, Anc N i k → i ∈ l2 → False := fun i hi hm => by
        obtain ⟨h3, j, hj, h4⟩ := b2 i hm
        have hjl := hlt j (by simp [hj])
        have hjp := hp j (by simp [hj])
        have hjk : j ≠ k := fun he => by subst he; exact hnd'.1 hj
        rcases hi.lin h4 with h5 | h5
        · exact hjk (sib hk hjl hkp hjp h5).symm
        · exact hjk (sib hjl hk hjp hkp h5)
      refine List.nodup_cons.2 ⟨?_, List.nodup_append.2 ⟨c1 k (h.nodup k hk) (fun j hj => ((h.kid k j hk).1 hj).2), c2 p hnd'.2 (fun j hj => hp j (by simp [hj])), fun x hx y hy hxy => ?_⟩⟩
      · rw [List.mem_append]
        rintro (h3 | h3)
        · exact (b1' k h3).2.2 rfl
        · exact dis k (Anc.refl k) h3
      · subst hxy; exact dis x (b1' x hx).2.1 hy
theorem TF.size {N : List ND} (h : WF N) {n : Nat} (hn : n < N.length) {t : NT} (ht : TF N (N.getD n n0).kids t) : t.size ≤ N.length := by
  obtain ⟨l, h1, h2, h3⟩ := TF.ids h ht (fun k hk => ((h.kid n k hn).1 hk).1)
  rw [← h1]
  exact nodup_le _ _ (h3 n (h.nodup n hn) (fun k hk => ((h.kid n k hn).1 hk).2)) (fun k hk => (h2 k hk).1)
end Go.Proofs.Yteeibieaapiomaa.D
