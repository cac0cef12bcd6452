import Derived.Test.YteeibieaapiomaaSSpot
/- What stays true of a Site. -/
namespace Go.Proofs.Yteeibieaapiomaa.D
open Go Go.Z Go.Proofs
set_option linter.unusedVariables false
def isK (k : ByteArray) (e : Ent) : Bool := decide (e.sp = 1 ∧ e.nm = k)
def cntL (T : List Ent) (k : ByteArray) : Int := (T.countP (isK k) : Nat)
def sameK (N N' : List ND) : Prop := N.length ≤ N'.length ∧ ∀ i, i < N.length → (N'.getD i n0).kind = (N.getD i n0).kind ∧ (N'.getD i n0).space = (N.getD i n0).space ∧ (N'.getD i n0).name = (N.getD i n0).name
theorem sameK.refl (N : List ND) : sameK N N := ⟨Nat.le_refl _, fun _ _ => ⟨rfl, rfl, rfl⟩⟩
theorem sameK.trans {a b c : List ND} (h : sameK a b) (k : sameK b c) : sameK a c := ⟨Nat.le_trans h.1 k.1, fun i hi => by
  obtain ⟨h1, h2, h3⟩ := h.2 i hi
  obtain ⟨k1, k2, k3⟩ := k.2 i (Nat.lt_of_lt_of_le hi h.1)
  exact ⟨k1.trans h1, k2.trans h2, k3.trans h3⟩⟩
theorem sameK.snoc (N : List ND) (x : ND) : sameK N (N ++ [x]) := ⟨by simp, fun i hi => by rw [getD_add, if_neg (by omega)]; exact ⟨rfl, rfl, rfl⟩⟩
theorem sameK.set {N M : List ND} (h : sameK N M) (i : Nat) {x : ND} (h1 : x.kind = (M.getD i n0).kind) (h2 : x.space = (M.getD i n0).space) (h3 : x.name = (M.getD i n0).name) : sameK N (M.set i x) := ⟨by rw [List.length_set]; exact h.1, fun j hj => by
  have hjM : j < M.length := Nat.lt_of_lt_of_le hj h.1
  rcases Nat.lt_or_ge i M.length with hi | hi
  · rw [getD_set _ _ _ _ _ hi]
    split
    · rename_i hji; subst hji
      obtain ⟨g1, g2, g3⟩ := h.2 j hj
      exact ⟨h1.trans g1, h2.trans g2, h3.trans g3⟩
    · exact h.2 j hj
  · rw [List.set_eq_of_length_le hi]; exact h.2 j hj⟩
theorem sameK_lay (N : List ND) (n up a : Nat) (hne : n ≠ up) : sameK N (layN N n up a) := by
  unfold layN
  refine sameK.set (sameK.set (sameK.refl N) up (by rfl) (by rfl) (by rfl)) n ?_ ?_ ?_ <;>
    (rcases Nat.lt_or_ge up N.length with hi | hi
     · rw [getD_set _ _ _ _ _ hi, if_neg hne]
     · rw [List.set_eq_of_length_le hi])
theorem PutR.sameK {N N' : List ND} {n up ahead : Int} {q : Bool} (h : PutR N n up ahead q N') (hW : WF N) : sameK N N' := by
  by_cases ho : PutOk N n up ahead
  · rw [(h.1 ho).2]
    obtain ⟨h1, h2, h3, h4, h5, h6, h7⟩ := ho
    exact sameK_lay _ _ _ _ (fun he => h6 (he ▸ Anc.refl _))
  · rw [(h.2 ho).2]; exact D.sameK.refl N
theorem writeN_sameK (N : List ND) (s : List UInt8) (up a : Nat) (hup : up < N.length) : D.sameK N (writeN N s up a) := by
  unfold writeN
  split
  · exact D.sameK.refl N
  · split
    · exact (D.sameK.refl N).set _ (by rfl) (by rfl) (by rfl)
    · exact (D.sameK.snoc N _).trans (sameK_lay _ _ _ _ (by omega))
theorem WriteR.sameK {N N' : List ND} {s : List UInt8} {up ahead : Int} {q : Bool} (h : WriteR N s up ahead q N') : D.sameK N N' := by
  by_cases ho : WriteOk N up ahead
  · rw [(h.1 ho).2]
    have h1 := ho.1
    exact writeN_sameK _ _ _ _ (by have := h1.1; have := h1.2; omega)
  · rw [(h.2 ho).2]; exact D.sameK.refl N
structure Inv (E : List Ent) (I : List Bool) (m : ByteArray → Int) (N : List ND) : Prop where
  pos : 0 < E.length
  root : E.getD 0 en0 = en0
  nd : (E.map Ent.n).Nodup
  el : ∀ e ∈ E, e.n < N.length ∧ e = entN N e.n ∧ (N.getD e.n n0).kind = 1
  io : ∀ n, I.getD n false = true ↔ n ∈ E.map Ent.n
  il : I.length ≤ N.length
  cn : ∀ k, m k = cntL E.tail k
section
variable {E : List Ent} {I : List Bool} {m : ByteArray → Int} {N N' : List ND}
theorem Inv.elen (h : Inv E I m N) : E.length ≤ N.length := by
  have := nodup_le N.length (E.map Ent.n) h.nd (fun k hk => by obtain ⟨e, he, rfl⟩ := List.mem_map.1 hk; exact (h.el e he).1)
  simpa using this
theorem Inv.small (h : Inv E I m N) (hN : N.length ≤ 900000) : SmallM m := fun k => by
  rw [h.cn]
  have h1 := h.elen
  have h2 : E.tail.countP (isK k) ≤ E.tail.length := List.countP_le_length
  rw [List.length_tail] at h2
  unfold cntL
  omega
theorem Inv.nodes (h : Inv E I m N) (hK : sameK N N') : Inv E I m N' :=
  ⟨h.pos, h.root, h.nd, fun e he => by
    obtain ⟨h1, h2, h3⟩ := h.el e he
    obtain ⟨k1, k2, k3⟩ := hK.2 e.n h1
    refine ⟨Nat.lt_of_lt_of_le h1 hK.1, ?_, k1.trans h3⟩
    rw [h2]
    unfold entN
    dsimp only
    rw [k2, k3], h.io, Nat.le_trans h.il hK.1, h.cn⟩
theorem Inv.opn (h : Inv E I m N) (n : Nat) : opn I n ↔ n ∈ E.map Ent.n := by
  rw [← h.io]
  unfold D.opn
  refine ⟨fun hh => by have := hh.2.2; simpa using this, fun hh => ⟨by omega, ?_, by simpa using hh⟩⟩
  rcases Nat.lt_or_ge n I.length with h1 | h1
  · omega
  · rw [List.getD_eq_getElem?_getD, List.getElem?_eq_none h1] at hh; cases hh
theorem tail_getD (E : List Ent) (k : Nat) (h : k + 1 < E.length) : E.getD (k + 1) en0 ∈ E.tail := by
  cases E with
  | nil => simp at h
  | cons a r =>
    rw [List.getD_cons_succ, List.tail_cons]
    exact getD_mem (by simpa using h)
theorem Inv.some_of (h : Inv E I m N) {e : Ent} (he : e ∈ E.tail) {l : List ByteArray} (hi : isE e l = true) : someM m l := by
  unfold isE at hi
  rw [Bool.and_eq_true, decide_eq_true_eq, memB_iff] at hi
  refine ⟨e.nm, hi.2, ?_⟩
  rw [h.cn]
  unfold cntL
  have : 0 < E.tail.countP (isK e.nm) := List.countP_pos_iff.2 ⟨e, he, by unfold isK; simp [hi.1.2]⟩
  omega
theorem Inv.hno (h : Inv E I m N) {l : List ByteArray} (hs : ¬ someM m l) (sc : Int) : ∀ k, k < E.length → hasF E sc l k = false
  | 0, _ => rfl
  | k + 1, hk => by
    rw [hasF_succ]
    rw [if_neg (fun hi => hs (h.some_of (tail_getD E k hk) hi))]
    split
    · rfl
    · exact h.hno hs sc k (by omega)
theorem Inv.lno (h : Inv E I m N) {l : List ByteArray} (hs : ¬ someM m l) : ∀ k, k < E.length → lastF E l k = 0
  | 0, _ => rfl
  | k + 1, hk => by
    rw [lastF_succ]
    rw [if_neg (fun hi => hs (h.some_of (tail_getD E k hk) hi))]
    exact h.lno hs k (by omega)
theorem comI_get (I : List Bool) (n j : Nat) : (comI I n).getD j false = if j = n then true else I.getD j false := by
  unfold comI
  rw [getD_set _ _ _ _ _ (by simp; omega)]
  split
  · rfl
  · rw [List.getD_eq_getElem?_getD, List.getD_eq_getElem?_getD]
    rcases Nat.lt_or_ge j I.length with h | h
    · rw [List.getElem?_append_left h]
    · rw [List.getElem?_append_right h, List.getElem?_eq_none h]
      rw [List.getElem?_replicate]
      split <;> rfl
theorem comI_len (I : List Bool) (n : Nat) : (comI I n).length = max I.length (n + 1) := by unfold comI; simp; omega
theorem cntL_snoc (T : List Ent) (e : Ent) (k : ByteArray) : cntL (T ++ [e]) k = cntM (cntL T) e 1 k := by
  unfold cntL cntM updM
  rw [List.countP_append, List.countP_singleton]
  unfold isK
  by_cases h1 : e.sp = 1
  · rw [if_pos h1]
    by_cases h2 : k = e.nm
    · rw [if_pos h2, if_pos (by simp [h1, h2])]
      subst h2; simp
    · rw [if_neg h2, if_neg (by simp [h1]; exact fun h => h2 h.symm)]
      simp
  · rw [if_neg h1, if_neg (by simp [h1])]
    simp
theorem Inv.push (h : Inv E I m N) {n : Nat} (hn : n < N.length) (hf : freshB N I n = true) : Inv (E ++ [entN N n]) (comI I n) (cntM m (entN N n) 1) N := by
  unfold freshB at hf
  rw [decide_eq_true_eq] at hf
  have hnd : nodeOf N (n : Nat) = N.getD n n0 := if_pos ⟨by omega, by omega⟩
  rw [hnd] at hf
  obtain ⟨hk, ho⟩ := hf
  have hno : n ∉ E.map Ent.n := fun hm => ho ((h.opn n).2 hm)
  have hpos := h.pos
  refine ⟨by simp, ?_, ?_, fun e he => ?_, fun j => ?_, ?_, fun k => ?_⟩
  · rw [List.getD_eq_getElem?_getD, List.getElem?_append_left h.pos, ← List.getD_eq_getElem?_getD]; exact h.root
  · rw [List.map_append, List.nodup_append]
    refine ⟨h.nd, by simp, fun a ha b hb => ?_⟩
    simp only [List.map_cons, List.map_nil, List.mem_singleton] at hb
    subst hb
    rintro rfl
    exact hno ha
  · rcases List.mem_append.1 he with he | he
    · exact h.el e he
    · simp only [List.mem_singleton] at he
      subst he
      exact ⟨hn, rfl, hk⟩
  · rw [comI_get]
    simp only [List.map_append, List.map_cons, List.map_nil, List.mem_append, List.mem_singleton]
    split
    · rename_i hj; exact iff_of_true rfl (.inr hj)
    · rename_i hj
      rw [h.io]
      exact ⟨.inl, fun hh => hh.elim id (fun hh => absurd hh hj)⟩
  · rw [comI_len]; have := h.il; omega
  · have ht : (E ++ [entN N n]).tail = E.tail ++ [entN N n] := by
      cases E with
      | nil => simp at hpos
      | cons a r => rfl
    rw [ht, cntL_snoc]
    have hm : m = cntL E.tail := funext h.cn
    rw [hm]
theorem Inv.pop (h : Inv E I m N) (h2 : 2 ≤ E.length) : Inv E.dropLast (I.set (lastE E).n false) (cntM m (lastE E) (-1)) N ∧ (lastE E).n < I.length := by
  have hsp : E = E.dropLast ++ [lastE E] := by
    have hne : E ≠ [] := by intro he; rw [he] at h2; simp at h2
    have : lastE E = E.getLast hne := by
      unfold lastE
      rw [List.getD_eq_getElem?_getD, List.getElem?_eq_getElem (by omega), List.getLast_eq_getElem]; rfl
    rw [this, List.dropLast_concat_getLast]
  obtain ⟨T, e, hT, he⟩ : ∃ T e, T = E.dropLast ∧ e = lastE E := ⟨_, _, rfl, rfl⟩
  rw [← hT, ← he] at hsp ⊢
  have hTl : T.length = E.length - 1 := by rw [hT]; simp
  have hnd := h.nd
  rw [hsp, List.map_append, List.nodup_append] at hnd
  obtain ⟨hnd1, _, hnd3⟩ := hnd
  have hen : e.n ∉ T.map Ent.n := fun hm => hnd3 e.n hm e.n (by simp) rfl
  have hIn : I.getD e.n false = true := (h.io e.n).2 (by rw [hsp]; simp)
  have hIl : e.n < I.length := by
    rcases Nat.lt_or_ge e.n I.length with h1 | h1
    · exact h1
    · rw [List.getD_eq_getElem?_getD, List.getElem?_eq_none h1] at hIn; cases hIn
  refine ⟨⟨by omega, ?_, hnd1, fun x hx => h.el x (by rw [hsp]; simp [hx]), fun j => ?_, by rw [List.length_set]; exact h.il, fun k => ?_⟩, hIl⟩
  · have := h.root
    rw [hsp, List.getD_eq_getElem?_getD, List.getElem?_append_left (by omega), ← List.getD_eq_getElem?_getD] at this
    exact this
  · rw [getD_set _ _ _ _ _ hIl]
    split
    · rename_i hj; subst hj
      exact iff_of_false Bool.false_ne_true hen
    · rename_i hj
      rw [h.io, hsp]
      simp only [List.map_append, List.map_cons, List.map_nil, List.mem_append, List.mem_singleton]
      exact ⟨fun hh => hh.elim id (fun hh => absurd hh hj), .inl⟩
  · have ht : E.tail = T.tail ++ [e] := by
      cases hTT : T with
      | nil => rw [hTT] at hTl; simp at hTl; omega
      | cons a r => rw [hsp, hTT]; rfl
    have hc := h.cn
    have key : ∀ k, m k = cntM (cntL T.tail) e 1 k := fun k => by rw [hc, ht, cntL_snoc]
    unfold cntM updM at key ⊢
    by_cases h1 : e.sp = 1
    · rw [if_pos h1]
      simp only [if_pos h1] at key
      by_cases hk : k = e.nm
      · subst hk
        have := key e.nm
        rw [if_pos rfl] at this ⊢
        omega
      · have := key k
        rw [if_neg hk] at this ⊢
        exact this
    · rw [if_neg h1]
      simp only [if_neg h1] at key
      exact key k
end
end Go.Proofs.Yteeibieaapiomaa.D
