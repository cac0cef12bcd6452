import Derived.Test.YtmhbdalemgmfcaaTLines
/- Fold, as the program and as the document has it. -/
namespace Go.Proofs.Ytmhbdalemgmfcaa.T
open Go Go.Z Go.Proofs
set_option linter.unusedVariables false
def upper (c : UInt8) : Prop := 65 ≤ c.toNat ∧ c.toNat ≤ 90
instance (c : UInt8) : Decidable (upper c) := inferInstanceAs (Decidable (_ ∧ _))
def foldB (c : UInt8) : UInt8 := if upper c then c + 32 else c
def foldN (l : List UInt8) : List UInt8 := l.map foldB
theorem foldB_up {c : UInt8} (h : upper c) : (foldB c).toNat = c.toNat + 32 := by
  unfold foldB; rw [if_pos h]
  have : (c + 32).toNat = (c.toNat + 32) % 256 := by rw [UInt8.toNat_add]; rfl
  rw [this, Nat.mod_eq_of_lt (by unfold upper at h; omega)]
theorem foldB_not {c : UInt8} (h : ¬ upper c) : foldB c = c := by unfold foldB; rw [if_neg h]
theorem foldB_twice (c : UInt8) : foldB (foldB c) = foldB c := by
  by_cases h : upper c
  · refine foldB_not (fun h2 => ?_)
    have := foldB_up h
    unfold upper at h h2; omega
  · rw [foldB_not h, foldB_not h]
theorem fold_twice (l : List UInt8) : foldN (foldN l) = foldN l := by simp [foldN, foldB_twice]
theorem fold_len (l : List UInt8) : (foldN l).length = l.length := by simp [foldN]
/-- folded so far -/
def mix (l : List UInt8) (k : Nat) : List UInt8 := (l.take k).map foldB ++ l.drop k
theorem mix_len (l : List UInt8) (k : Nat) : (mix l k).length = l.length := by simp [mix]; omega
theorem mix_0 (l : List UInt8) : mix l 0 = l := by simp [mix]
theorem mix_end (l : List UInt8) : mix l l.length = foldN l := by simp [mix, foldN]
theorem mix_get (l : List UInt8) (k : Nat) (h : k < l.length) : (mix l k).getD k 0 = l.getD k 0 := by
  unfold mix
  rw [List.getD_eq_getElem?_getD, List.getElem?_append_right (by simp; omega)]
  simp only [List.length_map, List.length_take, Nat.min_eq_left (Nat.le_of_lt h), Nat.sub_self]
  rw [drop_cons0 l k h]; rfl
theorem mix_step (l : List UInt8) (k : Nat) (h : k < l.length) : (mix l k).set k (foldB (l.getD k 0)) = mix l (k + 1) := by
  unfold mix
  rw [List.set_append_right _ _ (by simp; omega)]
  simp only [List.length_map, List.length_take, Nat.min_eq_left (Nat.le_of_lt h), Nat.sub_self]
  rw [drop_cons0 l k h, List.set_cons_zero, List.take_succ_eq_append_getElem h, List.map_append, List.append_assoc]
  have : l.getD k 0 = l[k] := by rw [List.getD_eq_getElem?_getD, List.getElem?_eq_getElem h]; rfl
  rw [this]; rfl
theorem mix_same (l : List UInt8) (k : Nat) (h : k < l.length) (hn : ¬ upper (l.getD k 0)) : mix l (k + 1) = mix l k := by
  rw [← mix_step l k h, foldB_not hn, ← mix_get l k h]
  rw [List.getD_eq_getElem?_getD, List.getElem?_eq_getElem (by rw [mix_len]; exact h)]
  exact List.set_getElem_self _
theorem mix_no (l : List UInt8) : ∀ k, k ≤ l.length → (∀ j, j < k → ¬ upper (l.getD j 0)) → mix l k = l
  | 0, _, _ => mix_0 l
  | k + 1, h, hn => by rw [mix_same l k h (hn k (Nat.lt_succ_self k)), mix_no l k (by omega) (fun j hj => hn j (by omega))]
theorem ev_ptr' {e : Env} {x : Operand} {b o o' : Nat} (h : ev e x = some (.pointer (some ⟨b, o, none⟩))) (ho : o = o') : ev e x = some (.pointer (some ⟨b, o', none⟩)) := by rw [h, ho]
theorem run_storeB {P : Program} {w : World} {b o el s k t : Nat} {cs : List Value} {v z : Value} [hz : Inf P t 1 k z] (hb : BlkB w b el cs) (ho : o < cs.length) (h1 : v.oneCell' = true) (hs : v.cells = #[v]) :
    (Instr.storeAt t (.pointer (some ⟨b, o, none⟩)) v).run P w = .ok () (w.setRow b (cs.set o v).toArray) := by
  have hh : w.heap[b]? = some (.cells cs.toArray el (cs.length, cs.length + 1)) := hb
  have hcell : w.cell? ⟨b, o, none⟩ = some cs[o] := by rw [hb.cell, List.getElem?_eq_getElem ho]
  have hfro : w.frozen? ⟨b, o, none⟩ = false := by
    simp only [World.frozen?, hh, Bool.and_eq_false_iff, decide_eq_false_iff_not]; left; omega
  have hadd : (⟨b, o, none⟩ : Addr).add 0 = ⟨b, o, none⟩ := rfl
  have hst : (store ((⟨b, o, none⟩ : Addr).add 0) v).run P w = .ok () (w.setRow b (cs.set o v).toArray) := by
    rw [hadd, run_store P w _ v _ h1, hcell]
    simp [hfro, setCell_eq_setRow w b o cs.toArray el _ v hh]
  simp only [Instr.storeAt, Instr.sureAddr, storeVar, Sem.run_bind, Sem.run_pure, Result.andThen_ok, hz.size w]
  rw [if_neg (by simp [hs])]
  simp [hs, storeCells, hst]
theorem z_storeB {P : Program} {n : Nat} {e : Env} {w : World} {Q : Exit → Act → World → Prop} {ops : Array Oper} {rest : List Oper} {ty : TypeId} {pos : String} {aft : Array Edge} {g : Option (Nat × Bool)} {x y : Operand}
    {b o el k t : Nat} {cs : List Value} {v z : Value} [hz : Inf P t 1 k z] (hw : Want ops e g) (hx : ev e x = some (.pointer (some ⟨b, o, none⟩))) (hy : ev e y = some v) (hb : BlkB w b el cs) (ho : o < cs.length) (h1 : v.oneCell' = true) (hs : v.cells = #[v])
    (h : ∀ w', BlkB w' b el (cs.set o v) → Chg w w' (· = b) → ZL P n ops rest e w' Q) : ZL P n ops (⟨none, .store t x y, ty, pos, aft, g⟩ :: rest) e w Q := by
  refine zl_runU (w' := w.setRow b (cs.set o v).toArray) hw rfl (fun a ha => by simp [execOp, ha.ev hx, ha.ev hy, run_storeB (s := 0) hb ho h1 hs]) (h _ ?_ ⟨rfl, rfl, rfl, by simp [World.setRow], fun j _ hj => setRow_other w b j _ hj⟩)
  have := setRow_heap w b _ (cs.set o v).toArray el _ hb
  unfold BlkB
  rw [this]; simp
theorem cellsB_set (l : List UInt8) (k : Nat) (c : UInt8) (z : List Value) (h : k < l.length) : (cellsB l ++ z).set k (.int .u8 c.toNat) = cellsB (l.set k c) ++ z := by
  rw [List.set_append_left _ _ (by rw [cellsB_len]; exact h)]
  simp [cellsB, List.map_set]
set_option maxHeartbeats 4000000 in
theorem fold_calls {w : World} {l : List UInt8} (hl : l.length ≤ 100000) : Calls Try.prog 17 [.string (bs l)].toArray w fun e w' => e = .returned (.string (bs (foldN l))) ∧ Chg w w' No := by
  refine calls_zc (n := 52) (f := 17) (fn := Try.f17) Try.func17 rfl rfl (by simp) ?_
  refine zc_seq ?_
  refine zc_region ?_
  refine zl_pureL rfl ?_
  refine zl_nil ?_
  refine zk_seq ?_
  iterate 2 (refine zc_seq ?_)
  refine zc_region ?_
  refine zl_pureL rfl ?_
  refine zl_nil ?_
  refine zk_seq ?_
  refine zc_block ?_
  refine zc_loop (ι := Nat) (fun i => [(0, .string (bs l)), (3, .int .i64 i)]) (fun _ => w) (fun i => i ≤ l.length ∧ ∀ j, j < i → ¬ upper (l.getD j 0)) (fun i => l.length - i) 0 ⟨Nat.zero_le _, fun j hj => absurd hj (Nat.not_lt_zero j)⟩ ?_ ?_ ?_
  · rfl
  · exact ⟨rfl, rfl, trivial⟩
  rintro i ⟨hi, hno⟩
  by_cases hlt : i < l.length
  · have hbi : (l.getD i 0).toNat = byteL l i := rfl
    by_cases hu : upper (l.getD i 0)
    · have hu' := hu
      unfold upper at hu'
      iterate 2 (refine zc_seq ?_)
      refine zc_region ?_
      iterate 2 (refine zl_pureL rfl ?_)
      refine z_lenL want_none (by decide) rfl ?_
      refine z_cmpB (r := true) want_none (by decide) rfl rfl rfl (iff_of_true rfl (by omega)) ?_
      refine zl_nil ?_
      refine zk_seq ?_
      refine zc_true rfl ?_
      refine zc_skip ?_
      refine zk_seq ?_
      refine zc_seq ?_
      refine zc_block ?_
      refine zc_seq ?_
      refine zc_region ?_
      iterate 2 (refine zl_pureL rfl ?_)
      refine z_idxN want_none (by decide) rfl rfl (by omega) ?_
      refine z_cmpB (r := true) want_none (by decide) rfl rfl rfl (iff_of_true rfl (by omega)) ?_
      iterate 3 (refine zl_pureL rfl ?_)
      refine z_idxN (want_L rfl) (by decide) rfl rfl (by omega) ?_
      refine z_cmpB (r := true) (want_L rfl) (by decide) rfl rfl rfl (iff_of_true rfl (by omega)) ?_
      refine zl_pureL rfl ?_
      refine zl_nil ?_
      refine zk_seq ?_
      refine zc_true rfl ?_
      refine zc_seq ?_
      refine zc_region ?_
      refine zl_pureL rfl ?_
      refine z_convSB (by first | exact want_none | exact want_L rfl) (by decide) rfl (fun w1 b c z hb hC hB hc => ?_)
      rw [← mix_no l i hi hno] at hB
      refine zl_pureL rfl ?_
      refine zl_nil ?_
      refine zk_seq ?_
      iterate 2 (refine zc_seq ?_)
      refine zc_region ?_
      iterate 2 (refine zl_pureL rfl ?_)
      refine zl_nil ?_
      refine zk_seq ?_
      refine zc_block ?_
      refine zc_loopW (ι := Nat) (fun k u => [(4, .slice (some ⟨b, 0, none⟩) l.length c), (5, .int .i64 k)]) (fun k u => k ≤ l.length ∧ Chg w u No ∧ BlkB u b 5 (cellsB (mix l k) ++ z)) (fun k u => l.length - k) i ⟨hi, hC, hB⟩ ?_ ?_
      · exact ⟨rfl, rfl, trivial⟩
      rintro k u ⟨hk, hC, hB⟩
      by_cases hkl : k < l.length
      · have hcell : u.cell? ⟨b, k, none⟩ = some (.int .u8 (byteL l k)) := by
          rw [hB.cell, List.getElem?_append_left (by rw [cellsB_len, mix_len]; exact hkl), cellsB_at _ k (by rw [mix_len]; exact hkl), mix_get l k hkl]; rfl
        have hbk : (l.getD k 0).toNat = byteL l k := rfl
        by_cases hu2 : upper (l.getD k 0)
        · have hu2' := hu2
          unfold upper at hu2'
          have hfb := foldB_up hu2
          iterate 2 (refine zc_seq ?_)
          refine zc_region ?_
          iterate 2 (refine zl_pureL rfl ?_)
          refine z_len want_none (by decide) rfl ?_
          refine z_cmpB (r := true) want_none (by decide) rfl rfl rfl (iff_of_true rfl (by omega)) ?_
          refine zl_nil ?_
          refine zk_seq ?_
          refine zc_true rfl ?_
          refine zc_skip ?_
          refine zk_seq ?_
          refine zc_seq ?_
          refine zc_block ?_
          refine zc_seq ?_
          refine zc_region ?_
          iterate 2 (refine zl_pureL rfl ?_)
          refine z_ia want_none (by decide) rfl rfl (by omega) (by omega) ?_
          try refine z_load1 (by first | exact want_none | exact want_L rfl) (by decide) rfl (cell_at hcell (by omega)) ?_
          refine z_cmpB (r := true) want_none (by decide) rfl rfl rfl (iff_of_true rfl (by omega)) ?_
          iterate 3 (refine zl_pureL rfl ?_)
          refine z_ia (want_L rfl) (by decide) rfl rfl (by omega) (by omega) ?_
          try refine z_load1 (by first | exact want_none | exact want_L rfl) (by decide) rfl (cell_at hcell (by omega)) ?_
          refine z_cmpB (r := true) (want_L rfl) (by decide) rfl rfl rfl (iff_of_true rfl (by omega)) ?_
          refine zl_pureL rfl ?_
          refine zl_nil ?_
          refine zk_seq ?_
          refine zc_true rfl ?_
          refine zc_region ?_
          iterate 2 (refine zl_pureL rfl ?_)
          refine z_ia want_none (by decide) rfl rfl (by omega) (by omega) ?_
          try refine z_load1 (by first | exact want_none | exact want_L rfl) (by decide) rfl (cell_at hcell (by omega)) ?_
          refine z_arith (k := .u8) (c := ((foldB (l.getD k 0)).toNat : Int)) (.inl ⟨rfl, ?_⟩) (by first | exact want_none | exact want_L rfl) (by decide) rfl rfl ?_
          · rw [wrap_u8 (by omega) (by omega), hfb]; omega
          refine z_ia want_none (by decide) rfl rfl (by omega) (by omega) ?_
          refine z_storeB (o := k) (by first | exact want_none | exact want_L rfl) (ev_ptr' rfl (by omega)) rfl hB (by rw [List.length_append, cellsB_len, mix_len]; omega) rfl rfl (fun u2 hB2 hC2 => ?_)
          rw [cellsB_set _ _ _ _ (by rw [mix_len]; exact hkl), mix_step l k hkl] at hB2
          refine zl_nil ?_
          refine zk_norm_block ?_
          refine zk_seq ?_
          refine zc_region ?_
          refine zl_pureL rfl ?_
          refine z_add want_none (by decide) rfl rfl (by omega) (by omega) ?_
          refine zl_pureL rfl ?_
          refine zl_nil ?_
          exact zk_loopW (k + 1) ⟨by omega, hC.trans hC2 (fun i hi he => by subst he; omega), hB2⟩ (by omega) ⟨rfl, get_int rfl (by simp), trivial⟩
        · have hu2' := hu2
          unfold upper at hu2'
          rw [← mix_same l k hkl hu2] at hB
          by_cases hq : 65 ≤ byteL l k
          · iterate 2 (refine zc_seq ?_)
            refine zc_region ?_
            iterate 2 (refine zl_pureL rfl ?_)
            refine z_len want_none (by decide) rfl ?_
            refine z_cmpB (r := true) want_none (by decide) rfl rfl rfl (iff_of_true rfl (by omega)) ?_
            refine zl_nil ?_
            refine zk_seq ?_
            refine zc_true rfl ?_
            refine zc_skip ?_
            refine zk_seq ?_
            refine zc_seq ?_
            refine zc_block ?_
            refine zc_seq ?_
            refine zc_region ?_
            iterate 2 (refine zl_pureL rfl ?_)
            refine z_ia want_none (by decide) rfl rfl (by omega) (by omega) ?_
            try refine z_load1 (by first | exact want_none | exact want_L rfl) (by decide) rfl (cell_at hcell (by omega)) ?_
            refine z_cmpB (r := true) want_none (by decide) rfl rfl rfl (iff_of_true rfl (by omega)) ?_
            iterate 3 (refine zl_pureL rfl ?_)
            refine z_ia (want_L rfl) (by decide) rfl rfl (by omega) (by omega) ?_
            try refine z_load1 (by first | exact want_none | exact want_L rfl) (by decide) rfl (cell_at hcell (by omega)) ?_
            refine z_cmpB (r := false) (want_L rfl) (by decide) rfl rfl rfl (iff_of_false Bool.false_ne_true (by omega)) ?_
            refine zl_pureL rfl ?_
            refine zl_nil ?_
            refine zk_seq ?_
            refine zc_false rfl ?_
            refine zc_skip ?_
            refine zk_norm_block ?_
            refine zk_seq ?_
            refine zc_region ?_
            refine zl_pureL rfl ?_
            refine z_add want_none (by decide) rfl rfl (by omega) (by omega) ?_
            refine zl_pureL rfl ?_
            refine zl_nil ?_
            exact zk_loopW (k + 1) ⟨by omega, hC, hB⟩ (by omega) ⟨rfl, get_int rfl (by simp), trivial⟩
          · iterate 2 (refine zc_seq ?_)
            refine zc_region ?_
            iterate 2 (refine zl_pureL rfl ?_)
            refine z_len want_none (by decide) rfl ?_
            refine z_cmpB (r := true) want_none (by decide) rfl rfl rfl (iff_of_true rfl (by omega)) ?_
            refine zl_nil ?_
            refine zk_seq ?_
            refine zc_true rfl ?_
            refine zc_skip ?_
            refine zk_seq ?_
            refine zc_seq ?_
            refine zc_block ?_
            refine zc_seq ?_
            refine zc_region ?_
            iterate 2 (refine zl_pureL rfl ?_)
            refine z_ia want_none (by decide) rfl rfl (by omega) (by omega) ?_
            try refine z_load1 (by first | exact want_none | exact want_L rfl) (by decide) rfl (cell_at hcell (by omega)) ?_
            refine z_cmpB (r := false) want_none (by decide) rfl rfl rfl (iff_of_false Bool.false_ne_true (by omega)) ?_
            iterate 3 (refine zl_pureL rfl ?_)
            iterate 3 (refine zl_skip rfl ?_)
            refine zl_pureL rfl ?_
            refine zl_nil ?_
            refine zk_seq ?_
            refine zc_false rfl ?_
            refine zc_skip ?_
            refine zk_norm_block ?_
            refine zk_seq ?_
            refine zc_region ?_
            refine zl_pureL rfl ?_
            refine z_add want_none (by decide) rfl rfl (by omega) (by omega) ?_
            refine zl_pureL rfl ?_
            refine zl_nil ?_
            exact zk_loopW (k + 1) ⟨by omega, hC, hB⟩ (by omega) ⟨rfl, get_int rfl (by simp), trivial⟩
      · obtain rfl : k = l.length := by omega
        rw [mix_end] at hB
        have hrb := hB.rb (c := c) (by rw [fold_len]; omega)
        rw [fold_len] at hrb
        iterate 2 (refine zc_seq ?_)
        refine zc_region ?_
        iterate 2 (refine zl_pureL rfl ?_)
        refine z_len want_none (by decide) rfl ?_
        refine z_cmpB (r := false) want_none (by decide) rfl rfl rfl (iff_of_false Bool.false_ne_true (by omega)) ?_
        refine zl_nil ?_
        refine zk_seq ?_
        refine zc_false rfl ?_
        refine zc_exit ?_
        iterate 2 (refine zk_exit_then ?_)
        refine zk_exit_block ?_
        refine zk_seq ?_
        refine zc_seq ?_
        refine zc_region ?_
        refine zl_pureL rfl ?_
        refine z_convBS (by first | exact want_none | exact want_L rfl) (by decide) rfl hrb ?_
        refine zl_pureL rfl ?_
        refine zl_nil ?_
        refine zk_seq ?_
        refine zc_ret ?_
        refine zk_ret_block ?_
        iterate 2 (refine zk_ret_then ?_)
        refine zk_ret_block ?_
        refine zk_ret_then ?_
        exact zk_ret1 (.inr rfl) rfl rfl ⟨rfl, hC⟩
    · have hu' := hu
      unfold upper at hu'
      have hno' : ∀ j, j < i + 1 → ¬ upper (l.getD j 0) := fun j hj => by
        by_cases hji : j = i
        · subst hji; exact hu
        · exact hno j (by omega)
      by_cases hq : 65 ≤ byteL l i
      · iterate 2 (refine zc_seq ?_)
        refine zc_region ?_
        iterate 2 (refine zl_pureL rfl ?_)
        refine z_lenL want_none (by decide) rfl ?_
        refine z_cmpB (r := true) want_none (by decide) rfl rfl rfl (iff_of_true rfl (by omega)) ?_
        refine zl_nil ?_
        refine zk_seq ?_
        refine zc_true rfl ?_
        refine zc_skip ?_
        refine zk_seq ?_
        refine zc_seq ?_
        refine zc_block ?_
        refine zc_seq ?_
        refine zc_region ?_
        iterate 2 (refine zl_pureL rfl ?_)
        refine z_idxN want_none (by decide) rfl rfl (by omega) ?_
        refine z_cmpB (r := true) want_none (by decide) rfl rfl rfl (iff_of_true rfl (by omega)) ?_
        iterate 3 (refine zl_pureL rfl ?_)
        refine z_idxN (want_L rfl) (by decide) rfl rfl (by omega) ?_
        refine z_cmpB (r := false) (want_L rfl) (by decide) rfl rfl rfl (iff_of_false Bool.false_ne_true (by omega)) ?_
        refine zl_pureL rfl ?_
        refine zl_nil ?_
        refine zk_seq ?_
        refine zc_false rfl ?_
        refine zc_skip ?_
        refine zk_norm_block ?_
        refine zk_seq ?_
        refine zc_region ?_
        refine zl_pureL rfl ?_
        refine z_add want_none (by decide) rfl rfl (by omega) (by omega) ?_
        refine zl_pureL rfl ?_
        refine zl_nil ?_
        exact zk_loop (i + 1) ⟨by omega, hno'⟩ (by omega) rfl ⟨rfl, get_int rfl (by simp), trivial⟩
      · iterate 2 (refine zc_seq ?_)
        refine zc_region ?_
        iterate 2 (refine zl_pureL rfl ?_)
        refine z_lenL want_none (by decide) rfl ?_
        refine z_cmpB (r := true) want_none (by decide) rfl rfl rfl (iff_of_true rfl (by omega)) ?_
        refine zl_nil ?_
        refine zk_seq ?_
        refine zc_true rfl ?_
        refine zc_skip ?_
        refine zk_seq ?_
        refine zc_seq ?_
        refine zc_block ?_
        refine zc_seq ?_
        refine zc_region ?_
        iterate 2 (refine zl_pureL rfl ?_)
        refine z_idxN want_none (by decide) rfl rfl (by omega) ?_
        refine z_cmpB (r := false) want_none (by decide) rfl rfl rfl (iff_of_false Bool.false_ne_true (by omega)) ?_
        iterate 3 (refine zl_pureL rfl ?_)
        iterate 2 (refine zl_skip rfl ?_)
        refine zl_pureL rfl ?_
        refine zl_nil ?_
        refine zk_seq ?_
        refine zc_false rfl ?_
        refine zc_skip ?_
        refine zk_norm_block ?_
        refine zk_seq ?_
        refine zc_region ?_
        refine zl_pureL rfl ?_
        refine z_add want_none (by decide) rfl rfl (by omega) (by omega) ?_
        refine zl_pureL rfl ?_
        refine zl_nil ?_
        exact zk_loop (i + 1) ⟨by omega, hno'⟩ (by omega) rfl ⟨rfl, get_int rfl (by simp), trivial⟩
  · obtain rfl : i = l.length := by omega
    have : foldN l = l := by rw [← mix_end, mix_no l _ (Nat.le_refl _) hno]
    rw [this]
    iterate 2 (refine zc_seq ?_)
    refine zc_region ?_
    iterate 2 (refine zl_pureL rfl ?_)
    refine z_lenL want_none (by decide) rfl ?_
    refine z_cmpB (r := false) want_none (by decide) rfl rfl rfl (iff_of_false Bool.false_ne_true (by omega)) ?_
    refine zl_nil ?_
    refine zk_seq ?_
    refine zc_false rfl ?_
    refine zc_exit ?_
    iterate 2 (refine zk_exit_then ?_)
    refine zk_exit_block ?_
    refine zk_seq ?_
    refine zc_seq ?_
    refine zc_region ?_
    iterate 2 (refine zl_pureL rfl ?_)
    refine zl_nil ?_
    refine zk_seq ?_
    refine zc_ret ?_
    exact zk_ret1 (.inr rfl) rfl rfl ⟨rfl, Chg.refl _ _⟩
set_option maxHeartbeats 4000000 in
theorem foldR_calls {w : World} {l : List UInt8} (hl : l.length ≤ 100000) : Calls Try.prog 18 [.string (bs l)].toArray w fun e w' => e = .returned (.string (bs (foldN l))) ∧ Chg w w' No := by
  refine calls_zc (n := 35) (f := 18) (fn := Try.f18) Try.func18 rfl rfl (by simp) ?_
  refine zc_seq ?_
  refine zc_region ?_
  refine zl_pureL rfl ?_
  refine zl_nil ?_
  refine zk_seq ?_
  refine zc_seq ?_
  refine zc_region ?_
  refine zl_pureL rfl ?_
  refine z_convSB (by first | exact want_none | exact want_L rfl) (by decide) rfl (fun w1 b c z hb hC hB hc => ?_)
  rw [← mix_0 l] at hB
  refine zl_pureL rfl ?_
  refine zl_nil ?_
  refine zk_seq ?_
  iterate 2 (refine zc_seq ?_)
  refine zc_region ?_
  refine zl_pureL rfl ?_
  refine zl_nil ?_
  refine zk_seq ?_
  refine zc_block ?_
  refine zc_loopW (ι := Nat) (fun k u => [(3, .slice (some ⟨b, 0, none⟩) l.length c), (4, .int .i64 k)]) (fun k u => k ≤ l.length ∧ Chg w u No ∧ BlkB u b 5 (cellsB (mix l k) ++ z)) (fun k u => l.length - k) 0 ⟨Nat.zero_le _, hC, hB⟩ ?_ ?_
  · exact ⟨rfl, rfl, trivial⟩
  rintro k u ⟨hk, hC, hB⟩
  by_cases hkl : k < l.length
  · have hcell : u.cell? ⟨b, k, none⟩ = some (.int .u8 (byteL l k)) := by
      rw [hB.cell, List.getElem?_append_left (by rw [cellsB_len, mix_len]; exact hkl), cellsB_at _ k (by rw [mix_len]; exact hkl), mix_get l k hkl]; rfl
    have hbk : (l.getD k 0).toNat = byteL l k := rfl
    by_cases hu2 : upper (l.getD k 0)
    · have hu2' := hu2
      unfold upper at hu2'
      have hfb := foldB_up hu2
      iterate 2 (refine zc_seq ?_)
      refine zc_region ?_
      iterate 2 (refine zl_pureL rfl ?_)
      refine z_len want_none (by decide) rfl ?_
      refine z_cmpB (r := true) want_none (by decide) rfl rfl rfl (iff_of_true rfl (by omega)) ?_
      refine zl_nil ?_
      refine zk_seq ?_
      refine zc_true rfl ?_
      refine zc_skip ?_
      refine zk_seq ?_
      refine zc_seq ?_
      refine zc_block ?_
      refine zc_seq ?_
      refine zc_region ?_
      iterate 2 (refine zl_pureL rfl ?_)
      refine z_ia want_none (by decide) rfl rfl (by omega) (by omega) ?_
      try refine z_load1 (by first | exact want_none | exact want_L rfl) (by decide) rfl (cell_at hcell (by omega)) ?_
      refine z_cmpB (r := true) want_none (by decide) rfl rfl rfl (iff_of_true rfl (by omega)) ?_
      iterate 3 (refine zl_pureL rfl ?_)
      refine z_ia (want_L rfl) (by decide) rfl rfl (by omega) (by omega) ?_
      try refine z_load1 (by first | exact want_none | exact want_L rfl) (by decide) rfl (cell_at hcell (by omega)) ?_
      refine z_cmpB (r := true) (want_L rfl) (by decide) rfl rfl rfl (iff_of_true rfl (by omega)) ?_
      refine zl_pureL rfl ?_
      refine zl_nil ?_
      refine zk_seq ?_
      refine zc_true rfl ?_
      refine zc_region ?_
      iterate 4 (refine zl_pureL rfl ?_)
      refine z_ia want_none (by decide) rfl rfl (by omega) (by omega) ?_
      try refine z_load1 (by first | exact want_none | exact want_L rfl) (by decide) rfl (cell_at hcell (by omega)) ?_
      refine z_arith (k := .u8) (c := ((foldB (l.getD k 0)).toNat : Int)) (.inl ⟨rfl, ?_⟩) (by first | exact want_none | exact want_L rfl) (by decide) rfl rfl ?_
      · rw [wrap_u8 (by omega) (by omega), hfb]; omega
      refine z_ia want_none (by decide) rfl rfl (by omega) (by omega) ?_
      refine z_storeB (o := k) (by first | exact want_none | exact want_L rfl) (ev_ptr' rfl (by omega)) rfl hB (by rw [List.length_append, cellsB_len, mix_len]; omega) rfl rfl (fun u2 hB2 hC2 => ?_)
      rw [cellsB_set _ _ _ _ (by rw [mix_len]; exact hkl), mix_step l k hkl] at hB2
      refine zl_nil ?_
      refine zk_norm_block ?_
      refine zk_seq ?_
      refine zc_region ?_
      refine zl_pureL rfl ?_
      refine z_add want_none (by decide) rfl rfl (by omega) (by omega) ?_
      refine zl_pureL rfl ?_
      refine zl_nil ?_
      exact zk_loopW (k + 1) ⟨by omega, hC.trans hC2 (fun i hi he => by subst he; omega), hB2⟩ (by omega) ⟨rfl, get_int rfl (by simp), trivial⟩
    · have hu2' := hu2
      unfold upper at hu2'
      rw [← mix_same l k hkl hu2] at hB
      by_cases hq : 65 ≤ byteL l k
      · iterate 2 (refine zc_seq ?_)
        refine zc_region ?_
        iterate 2 (refine zl_pureL rfl ?_)
        refine z_len want_none (by decide) rfl ?_
        refine z_cmpB (r := true) want_none (by decide) rfl rfl rfl (iff_of_true rfl (by omega)) ?_
        refine zl_nil ?_
        refine zk_seq ?_
        refine zc_true rfl ?_
        refine zc_skip ?_
        refine zk_seq ?_
        refine zc_seq ?_
        refine zc_block ?_
        refine zc_seq ?_
        refine zc_region ?_
        iterate 2 (refine zl_pureL rfl ?_)
        refine z_ia want_none (by decide) rfl rfl (by omega) (by omega) ?_
        try refine z_load1 (by first | exact want_none | exact want_L rfl) (by decide) rfl (cell_at hcell (by omega)) ?_
        refine z_cmpB (r := true) want_none (by decide) rfl rfl rfl (iff_of_true rfl (by omega)) ?_
        iterate 3 (refine zl_pureL rfl ?_)
        refine z_ia (want_L rfl) (by decide) rfl rfl (by omega) (by omega) ?_
        try refine z_load1 (by first | exact want_none | exact want_L rfl) (by decide) rfl (cell_at hcell (by omega)) ?_
        refine z_cmpB (r := false) (want_L rfl) (by decide) rfl rfl rfl (iff_of_false Bool.false_ne_true (by omega)) ?_
        refine zl_pureL rfl ?_
        refine zl_nil ?_
        refine zk_seq ?_
        refine zc_false rfl ?_
        refine zc_skip ?_
        refine zk_norm_block ?_
        refine zk_seq ?_
        refine zc_region ?_
        refine zl_pureL rfl ?_
        refine z_add want_none (by decide) rfl rfl (by omega) (by omega) ?_
        refine zl_pureL rfl ?_
        refine zl_nil ?_
        exact zk_loopW (k + 1) ⟨by omega, hC, hB⟩ (by omega) ⟨rfl, get_int rfl (by simp), trivial⟩
      · iterate 2 (refine zc_seq ?_)
        refine zc_region ?_
        iterate 2 (refine zl_pureL rfl ?_)
        refine z_len want_none (by decide) rfl ?_
        refine z_cmpB (r := true) want_none (by decide) rfl rfl rfl (iff_of_true rfl (by omega)) ?_
        refine zl_nil ?_
        refine zk_seq ?_
        refine zc_true rfl ?_
        refine zc_skip ?_
        refine zk_seq ?_
        refine zc_seq ?_
        refine zc_block ?_
        refine zc_seq ?_
        refine zc_region ?_
        iterate 2 (refine zl_pureL rfl ?_)
        refine z_ia want_none (by decide) rfl rfl (by omega) (by omega) ?_
        try refine z_load1 (by first | exact want_none | exact want_L rfl) (by decide) rfl (cell_at hcell (by omega)) ?_
        refine z_cmpB (r := false) want_none (by decide) rfl rfl rfl (iff_of_false Bool.false_ne_true (by omega)) ?_
        iterate 3 (refine zl_pureL rfl ?_)
        iterate 3 (refine zl_skip rfl ?_)
        refine zl_pureL rfl ?_
        refine zl_nil ?_
        refine zk_seq ?_
        refine zc_false rfl ?_
        refine zc_skip ?_
        refine zk_norm_block ?_
        refine zk_seq ?_
        refine zc_region ?_
        refine zl_pureL rfl ?_
        refine z_add want_none (by decide) rfl rfl (by omega) (by omega) ?_
        refine zl_pureL rfl ?_
        refine zl_nil ?_
        exact zk_loopW (k + 1) ⟨by omega, hC, hB⟩ (by omega) ⟨rfl, get_int rfl (by simp), trivial⟩
  · obtain rfl : k = l.length := by omega
    rw [mix_end] at hB
    have hrb := hB.rb (c := c) (by rw [fold_len]; omega)
    rw [fold_len] at hrb
    iterate 2 (refine zc_seq ?_)
    refine zc_region ?_
    iterate 2 (refine zl_pureL rfl ?_)
    refine z_len want_none (by decide) rfl ?_
    refine z_cmpB (r := false) want_none (by decide) rfl rfl rfl (iff_of_false Bool.false_ne_true (by omega)) ?_
    refine zl_nil ?_
    refine zk_seq ?_
    refine zc_false rfl ?_
    refine zc_exit ?_
    iterate 2 (refine zk_exit_then ?_)
    refine zk_exit_block ?_
    refine zk_seq ?_
    refine zc_seq ?_
    refine zc_region ?_
    refine zl_pureL rfl ?_
    refine z_convBS (by first | exact want_none | exact want_L rfl) (by decide) rfl hrb ?_
    refine zl_pureL rfl ?_
    refine zl_nil ?_
    refine zk_seq ?_
    refine zc_ret ?_
    exact zk_ret1 (.inr rfl) rfl rfl ⟨rfl, hC⟩
end Go.Proofs.Ytmhbdalemgmfcaa.T
