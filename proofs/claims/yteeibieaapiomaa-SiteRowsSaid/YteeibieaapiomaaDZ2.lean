import Derived.Test.YteeibieaapiomaaDSmall
import Derived.Lib.AppendStr
/- Rows of bytes that are owned, some of which a string has made (their mark lies behind their end): a string put behind one; a string made one. -/
namespace Go.Z
open Go
/-- nothing of the row behind place o is marked -/
def Free (fz : Nat × Nat) (o len : Nat) : Prop := ∀ k, o ≤ k → k < len → ¬ (fz.1 ≤ k ∧ k < fz.2)
def OwnB (w : World) (t : Nat) (v : Value) (l : List UInt8) : Prop :=
  (v = .slice none 0 0 ∧ l = []) ∨ ∃ g cap cur fz, v = .slice (some ⟨g, 0, none⟩) l.length cap ∧ w.heap[g]? = some (.cells cur t fz) ∧ Free fz l.length cur.size ∧ l.length ≤ cap ∧ cap ≤ maxLen ∧ cur.size = cap ∧ cur.toList.take l.length = cellsB l
section
variable {w w' : World} {t : Nat} {v : Value} {l : List UInt8} {S : Nat → Prop}
theorem OwnB.nil : OwnB w t (.slice none 0 0) [] := .inl ⟨rfl, rfl⟩
theorem OwnB.chg (h : OwnB w t v l) (hc : Chg w w' S) (hS : ∀ k, v.ownBlock = some k → ¬ S k) : OwnB w' t v l := by
  rcases h with h | ⟨g, cap, cur, fz, rfl, hg, h1, h2, h3, h4, h5⟩
  · exact .inl h
  · refine .inr ⟨g, cap, cur, fz, rfl, ?_, h1, h2, h3, h4, h5⟩
    rw [hc.same g (Array.getElem?_eq_some_iff.1 hg).1 (hS g rfl)]
    exact hg
theorem OwnB.no (h : OwnB w t v l) (hc : Chg w w' No) : OwnB w' t v l := h.chg hc (fun _ _ => id)
theorem OwnB.lt (h : OwnB w t v l) {k : Nat} (hk : v.ownBlock = some k) : k < w.heap.size := by
  rcases h with ⟨rfl, rfl⟩ | ⟨g, cap, cur, fz, rfl, hg, _⟩
  · cases hk
  · simp [Value.ownBlock] at hk; subst hk; exact (Array.getElem?_eq_some_iff.1 hg).1
theorem OwnB.ne (h : OwnB w t v l) {k b t' : Nat} {cs : List Value} (hk : v.ownBlock = some k) (hb : Blk w b t' cs) (ht : t ≠ t') : k ≠ b := by
  rintro rfl
  rcases h with ⟨rfl, rfl⟩ | ⟨g, cap, cur, fz, rfl, hg, _⟩
  · cases hk
  · simp [Value.ownBlock] at hk; subst hk
    unfold Blk at hb
    rw [hg] at hb
    simp only [Option.some.injEq, Obj.cells.injEq] at hb
    exact ht hb.2.1
theorem OwnB.form (h : OwnB w t v l) : ∃ A c, v = .slice A l.length c ∧ l.length ≤ c := by
  rcases h with ⟨rfl, rfl⟩ | ⟨g, cap, cur, fz, rfl, hg, _, h2, _⟩
  · exact ⟨none, 0, rfl, Nat.le_refl _⟩
  · exact ⟨_, cap, rfl, h2⟩
theorem OwnB.rb (h : OwnB w t v l) : RB w v l := by
  rcases h with ⟨rfl, rfl⟩ | ⟨g, cap, cur, fz, rfl, hg, h1, h2, h3, h4, h5⟩
  · exact ⟨none, 0, rfl, Nat.le_refl _, fun h => absurd h (Nat.lt_irrefl 0)⟩
  · refine ⟨_, cap, rfl, h2, fun _ => ⟨g, 0, rfl, fun i hi => ?_⟩⟩
    have := cellsB_at l i hi
    rw [← h5, List.getElem?_take, if_pos hi] at this
    rw [Nat.zero_add, cell_of_row w g i cur t fz hg]
    simpa using this
end
theorem strCells_bs (l : List UInt8) : Lib.strCells (bs l) = cellsB l := by
  simp [Lib.strCells, bs, cellsB]
/-- cells stored where nothing is marked -/
theorem run_storeFree (P : Program) (g o : Nat) (t : TypeId) (fz : Nat × Nat) : ∀ (vs : List Value) (i : Nat) (cur : Array Value) (w : World), w.heap[g]? = some (.cells cur t fz) → Free fz (o + i) cur.size → o + i + vs.length ≤ cur.size → (∀ v ∈ vs, v.oneCell' = true) →
    (storeCells ⟨g, o, none⟩ vs i).run P w = .ok () (w.setRow g (cur.toList.take (o + i) ++ vs ++ cur.toList.drop (o + i + vs.length)).toArray)
  | [], i, cur, w, hg, _, _, _ => by
    simp only [storeCells, List.append_nil, List.length_nil, Nat.add_zero, List.take_append_drop, Array.toArray_toList]
    rw [setRow_self w g cur t fz hg]
    rfl
  | v :: r, i, cur, w, hg, hfz, hl, h1 => by
    have hi : o + i < cur.size := by simp at hl; omega
    have hcell : w.cell? ⟨g, o + i, none⟩ = some cur[o + i] := by simp [World.cell?, hg, hi]
    have hfro : w.frozen? ⟨g, o + i, none⟩ = false := by
      have := hfz (o + i) (Nat.le_refl _) hi
      obtain ⟨lo, hi'⟩ := fz
      simp only [World.frozen?, hg]
      simp only [Bool.and_eq_false_iff, decide_eq_false_iff_not]
      simp only at this
      omega
    have hst : (store ((⟨g, o, none⟩ : Addr).add i) v).run P w = .ok () (w.setRow g (cur.setIfInBounds (o + i) v)) := by
      rw [addr_add, run_store P w _ v _ (h1 v (by simp)), hcell]
      simp [hfro, setCell_eq_setRow w g (o + i) cur t fz v hg]
    have ih := run_storeFree P g o t fz r (i + 1) (cur.setIfInBounds (o + i) v) (w.setRow g (cur.setIfInBounds (o + i) v)) (setRow_heap w g cur _ t _ hg) (fun k hk hk2 => hfz k (by omega) (by simpa using hk2)) (by simp at hl ⊢; omega) (fun x hx => h1 x (by simp [hx]))
    simp only [storeCells, Sem.run_bind, hst, Result.andThen_ok, ih, setRow_setRow]
    congr 3
    have e := list_seg_step cur.toList (o + i) v r (by simp at hl ⊢; omega)
    simpa [Array.toList_setIfInBounds, Nat.add_assoc] using e
section
variable {P : Program} {n : Nat} {e : Env} {w : World} {Q : Exit → Act → World → Prop} {ops : Array Oper} {rest : List Oper}
variable {d : Tmp} {ty : TypeId} {pos : String} {aft : Array Edge} {g : Option (Nat × Bool)}
theorem z_appendB {s x : Operand} {t u el : TypeId} {v : Value} {xs l : List UInt8} [hu : Und P t (.slice el)] [hu2 : Und P u .string] [hz : Inf P el 1 1 (.int .u8 0)] (hw : Want ops e g) (hdn : d < n)
    (hs : ev e s = some v) (hx : ev e x = some (.string (bs l))) (hown : OwnB w el v xs) (h63 : xs.length + l.length ≤ 140737488355328)
    (h : ∀ v' w', OwnB w' el v' (xs ++ l) → Chg w w' (fun k => v.ownBlock = some k) → (v'.ownBlock = v.ownBlock ∨ ∃ k, v'.ownBlock = some k ∧ w.heap.size ≤ k) → ZL P n ops rest ((d, v') :: e) w' Q) :
    ZL P n ops (⟨some d, .call { callee := .builtin .append, args := #[s, x], argTypes := #[t, u] }, ty, pos, aft, g⟩ :: rest) e w Q := by
  obtain ⟨i, hi1, hi2, hi3, hi4⟩ := hz.ex
  have hsz := bs_size l
  have key : ∃ v' w', (Builtin.append_ #[t, u] ty #[v, .string (bs l)]).run P w = .ok v' w' ∧ OwnB w' el v' (xs ++ l) ∧ Chg w w' (fun k => v.ownBlock = some k) ∧ (v'.ownBlock = v.ownBlock ∨ ∃ k, v'.ownBlock = some k ∧ w.heap.size ≤ k) := by
    rcases hown with ⟨rfl, rfl⟩ | ⟨g0, cap, cur, fz, rfl, hg0, hfz, hnc, hcm, hcs, htake⟩
    · obtain ⟨v', w', hr, ho, hg, hnil⟩ := Lib.run_append_own_string (P := P) w 0 t u ty el i hu.eq hu2.eq hi1 hi4 hi2 hi3 (.slice none 0 0) 0 [] ⟨rfl, .inl ⟨rfl, rfl⟩⟩ (bs l) (by simp [maxLen, hsz]; simp at h63; omega) (by rw [hsz]; simp at h63; omega) (Nat.zero_le _)
      rw [hsz, strCells_bs] at ho
      refine ⟨v', w', hr, ?_, ⟨hg.os, hg.tape, hg.output, hg.size, fun k hk hn => hg.block k hk (fun he => hn he.symm)⟩, ?_⟩
      · rcases ho.2 with ⟨h1, h2⟩ | ⟨g1, cap, cur, h1, _, h2, h3, h4, h5, h6⟩
        · have : l = [] := List.eq_nil_of_length_eq_zero (by omega)
          subst this
          exact .inl ⟨h1, rfl⟩
        · refine .inr ⟨g1, cap, cur, (0, 0), by rw [h1]; simp, h2, fun k _ _ hh => by simp at hh, by simpa using h3, h4, by simpa using h5, ?_⟩
          simpa using h6
      · by_cases h0 : l.length = 0
        · have h2 := hnil.2 ⟨rfl, by rw [hsz]; exact h0⟩
          subst h2
          exact .inl rfl
        · have h2 := run_append_nil_string (P := P) w t u ty el i (.int .u8 0) hu.eq hu2.eq hi1 hi4 (bs l) (by rw [hsz]; omega) (by rw [hsz]; simp at h63; omega) (by rw [hsz, hi3]; simp at h63; omega)
          have := hr.symm.trans h2
          cases this
          exact .inr ⟨_, rfl, Nat.le_refl _⟩
    · by_cases hroom : xs.length + l.length ≤ cap
      · have hf := Lib.run_firstCells_string (P := P) w 1 (bs l)
        have hst := run_storeFree P g0 xs.length el fz (cellsB l) 0 cur w hg0 (by simpa using hfz) (by simp [cellsB]; omega) (fun u hu => by obtain ⟨b, _, rfl⟩ := List.mem_map.1 hu; rfl)
        have hcl : (cellsB l).length = l.length := by simp [cellsB]
        simp only [Nat.add_zero, hcl] at hst
        have hr : (Builtin.append_ #[t, u] ty #[.slice (some ⟨g0, 0, none⟩) xs.length cap, .string (bs l)]).run P w = .ok (.slice (some ⟨g0, 0, none⟩) (xs.length + l.length) cap) (w.setRow g0 (cur.toList.take xs.length ++ cellsB l ++ cur.toList.drop (xs.length + l.length)).toArray) := by
          rw [strCells_bs, hsz] at hf
          simp [Builtin.append_, run_underlying hu.eq, run_underlying hu2.eq, sizeOf, typeInfo, hi1, hi2, Builtin.lenOf, hsz, hroom, hf, Addr.add_lit, hst]
        refine ⟨_, _, hr, .inr ⟨g0, cap, _, fz, by rw [List.length_append], setRow_heap w g0 cur _ el _ hg0, ?_, by rw [List.length_append]; exact hroom, hcm, ?_, ?_⟩, ⟨rfl, rfl, rfl, by simp, fun k _ hk => setRow_other w g0 k _ (fun e => hk (by simp [Value.ownBlock, e]))⟩, .inl rfl⟩
        · intro k hk hk2
          rw [List.length_append] at hk
          refine hfz k (by omega) ?_
          simp [cellsB] at hk2
          omega
        · simp [cellsB]; omega
        · rw [htake, List.length_append]
          have e1 : (cellsB xs ++ cellsB l).length = xs.length + l.length := by simp [cellsB]
          have e3 : (cellsB xs ++ cellsB l ++ List.drop (xs.length + l.length) cur.toList).take (xs.length + l.length) = cellsB xs ++ cellsB l := by rw [← e1, List.take_left]
          have e4 : cellsB (xs ++ l) = cellsB xs ++ cellsB l := by simp [cellsB]
          rw [List.toList_toArray, e3, e4]
      · have holds : ∀ j u, (cellsB xs)[j]? = some u → w.cell? ((⟨g0, 0, none⟩ : Addr).add j) = some u := fun j u hj => by
          rw [addr_add, Nat.zero_add, cell_of_row w g0 j cur el fz hg0]
          rw [← htake, List.getElem?_take] at hj
          split at hj
          · simpa using hj
          · cases hj
        have hr := Lib.run_append_grow_string (P := P) w t u ty el i (.int .u8 0) hu.eq hu2.eq hi1 hi4 ⟨g0, 0, none⟩ xs.length cap (cellsB xs) (by rw [hi2]; simp [cellsB]) holds (bs l) (by rw [hsz]; omega) (by rw [hsz]; omega) (by rw [hi3]; exact growslice_fits (by rw [hsz]; omega) (by rw [hsz]; omega))
        rw [hsz, strCells_bs] at hr
        have hge := grownCap_ge w (xs.length + l.length) cap el
        have hcm2 : grownCap w (xs.length + l.length) cap el ≤ maxLen := grownCap_le_maxLen w (xs.length + l.length) cap el (by simp [maxLen]; omega)
        have hz1 : (Value.int IntKind.u8 0).cells.size = 1 := rfl
        refine ⟨_, _, hr, .inr ⟨w.heap.size, _, _, (0, 0), by rw [List.length_append], heap_alloc_new w.drew _, fun k _ _ hh => by simp at hh, by rw [List.length_append]; exact hge, hcm2, ?_, ?_⟩, ⟨rfl, rfl, rfl, by simp, fun k hk _ => heap_alloc_old w.drew _ hk⟩, .inr ⟨_, rfl, Nat.le_refl _⟩⟩
        · simp only [Array.size_append, List.size_toArray, size_zeroCells, hz1]
          simp [cellsB]; omega
        · have e1 : (cellsB xs ++ cellsB l).length = (xs ++ l).length := by simp [cellsB]
          simp only [Array.toList_append, List.append_assoc]
          rw [← List.append_assoc, ← e1, List.take_left]
          simp [cellsB]
  obtain ⟨v', w', hr, h1, h2, h3⟩ := key
  exact zl_run (v := v') (w' := w') hw rfl hdn (fun a ha => by simp [execOp, resolve, invoke, builtin, ha.ev hs, ha.ev hx, hr]) (h v' w' h1 h2 h3)
/-- a string made a row of its own -/
theorem z_convSO {src dst el : TypeId} {l : List UInt8} {x : Operand} {u : TypeDesc} [hs : Und P src u] [hd : Und P dst (.slice el)] [he : Und P el (.int .u8)] (hw : Want ops e g) (hdn : d < n) (hx : ev e x = some (.string (bs l))) (hl : l.length ≤ maxLen)
    (h : ∀ w' b c, w.heap.size ≤ b → Chg w w' No → OwnB w' el (.slice (some ⟨b, 0, none⟩) l.length c) l → ZL P n ops rest ((d, .slice (some ⟨b, 0, none⟩) l.length c) :: e) w' Q) :
    ZL P n ops (⟨some d, .convert src dst x, ty, pos, aft, g⟩ :: rest) e w Q := by
  have hr := Lib.run_convert_string_bytes (P := P) w src dst el (bs l) hs.eq hd.eq he.eq
  rw [bs_size] at hr
  refine zl_run (v := .slice (some ⟨w.heap.size, 0, none⟩) l.length (grownCap w l.length 0 el)) (w' := Lib.bytesWorld w el (bs l)) hw rfl hdn (fun A hA => by simp [execOp, hA.ev hx, hr]) ?_
  refine h _ w.heap.size _ (Nat.le_refl _) ⟨rfl, rfl, rfl, by rw [Lib.bytesWorld_size]; omega, fun k hk _ => Lib.bytesWorld_at_old w el (bs l) k hk⟩ ?_
  have hge := grownCap_ge w l.length 0 el
  have := Lib.bytesWorld_at_new w el (bs l)
  have e1 : Lib.bytesCells w el (bs l) = (cellsB l ++ List.replicate (grownCap w l.length 0 el - l.length) (Value.int .u8 0)).toArray := by
    unfold Lib.bytesCells
    rw [bs_size]
    simp [bs, cellsB]
  rw [e1] at this
  refine .inr ⟨w.heap.size, _, _, _, rfl, this, fun k _ hk hh => ?_, hge, grownCap_le_maxLen w _ _ _ hl, by simp [cellsB]; omega, ?_⟩
  · have := hh.1; omega
  · have e2 : (cellsB l).length = l.length := by simp [cellsB]
    simp only []
    rw [← e2, List.take_left]
end
end Go.Z
