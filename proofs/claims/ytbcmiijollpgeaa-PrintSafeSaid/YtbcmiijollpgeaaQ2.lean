import Derived.Test.YtbcmiijollpgeaaQ1
/- Addresses of the document: letters folded, blanks cut off, pieces. -/
namespace Go.Proofs.Ytbcmiijollpgeaa.T
open Go Go.Z Go.Proofs
set_option linter.unusedVariables false
theorem ev_ptr' {e : Env} {x : Operand} {b o o' : Nat} (h : ev e x = some (.pointer (some ⟨b, o, none⟩))) (ho : o = o') : ev e x = some (.pointer (some ⟨b, o', none⟩)) := by rw [h, ho]
theorem run_storeB {P : Program} {w : World} {b o el s k t : Nat} {cs : List Value} {v z : Value} [hz : Inf P t 1 k z] (hb : BlkB w b el cs) (ho : o < cs.length) (h1 : v.oneCell' = true) (hs : v.cells = #[v]) :
    (Instr.storeAt t (.pointer (some ⟨b, o, none⟩)) v).run P w = .ok () (w.setRow b (cs.set o v).toArray) := by
  have hh : w.heap[b]? = some (.cells cs.toArray el (cs.length, cs.length + 1)) := hb
  have hcell : w.cell? ⟨b, o, none⟩ = some cs[o] := by rw [hb.cell, List.getElem?_eq_getElem ho]
  have hfro : w.frozen? ⟨b, o, none⟩ = false := by
    simp only [World.frozen?, hh, Bool.and_eq_false_iff, decide_eq_false_iff_not]; left; omega
  have hadd : (⟨b, o, none⟩ : Addr).add 0 = ⟨b, o, none⟩ := rfl
  have hst : (store ((⟨b, o, none⟩ : Addr).add 0) v).run P w = .ok () (w.setRow b (cs.set o v).toArray) := by
    rw [hadd, run_store P w _ v _ h1, hcell]
    simp [hfro, setCell_eq_setRow w b o cs.toArray el _ v hh]
  simp only [Instr.storeAt, Instr.sureAddr, storeVar, Sem.run_bind, Sem.run_pure, Result.andThen_ok, hz.size w]
  rw [if_neg (by simp [hs])]
  simp [hs, storeCells, hst]
theorem z_storeB {P : Program} {n : Nat} {e : Env} {w : World} {Q : Exit → Act → World → Prop} {ops : Array Oper} {rest : List Oper} {ty : TypeId} {pos : String} {aft : Array Edge} {g : Option (Nat × Bool)} {x y : Operand}
    {b o el k t : Nat} {cs : List Value} {v z : Value} [hz : Inf P t 1 k z] (hw : Want ops e g) (hx : ev e x = some (.pointer (some ⟨b, o, none⟩))) (hy : ev e y = some v) (hb : BlkB w b el cs) (ho : o < cs.length) (h1 : v.oneCell' = true) (hs : v.cells = #[v])
    (h : ∀ w', BlkB w' b el (cs.set o v) → Chg w w' (· = b) → ZL P n ops rest e w' Q) : ZL P n ops (⟨none, .store t x y, ty, pos, aft, g⟩ :: rest) e w Q := by
  refine zl_runU (w' := w.setRow b (cs.set o v).toArray) hw rfl (fun a ha => by simp [execOp, ha.ev hx, ha.ev hy, run_storeB (s := 0) hb ho h1 hs]) (h _ ?_ ⟨rfl, rfl, rfl, by simp [World.setRow], fun j _ hj => setRow_other w b j _ hj⟩)
  have := setRow_heap w b _ (cs.set o v).toArray el _ hb
  unfold BlkB
  rw [this]; simp
theorem cellsB_set (l : List UInt8) (k : Nat) (c : UInt8) (z : List Value) (h : k < l.length) : (cellsB l ++ z).set k (.int .u8 c.toNat) = cellsB (l.set k c) ++ z := by
  rw [List.set_append_left _ _ (by rw [cellsB_len]; exact h)]
  simp [cellsB, List.map_set]
theorem cellsB_setN (l : List UInt8) (k : Nat) (c : Nat) (hc : c < 256) (z : List Value) (h : k < l.length) : (cellsB l ++ z).set k (.int .u8 c) = cellsB (l.set k (UInt8.ofNat c)) ++ z := by
  rw [← cellsB_set _ _ _ _ h]
  have : (UInt8.ofNat c).toNat = c := by simp; omega
  rw [this]
set_option maxHeartbeats 4000000 in
theorem fold_calls {w : World} (l : List UInt8) (hl : l.length ≤ big) : Calls Try.prog 72 [.string (bs l)].toArray w fun e w' => (∃ s : List UInt8, e = .returned (.string (bs s)) ∧ s.length = l.length) ∧ Chg w w' No := by
  have hbig : big = 1000000000000 := rfl
  refine calls_zc (n := 35) (f := 72) (fn := Try.f72) Try.func72 rfl rfl (by simp) ?_
  refine zc_seq ?_
  refine zc_region ?_
  refine zl_pureL rfl ?_
  refine zl_nil ?_
  refine zk_seq ?_
  refine zc_seq ?_
  refine zc_region ?_
  refine zl_pureL rfl ?_
  refine z_convSB (by first | exact want_none | exact want_L rfl) (by decide) rfl (fun w1 b c z hb hC hB hc => ?_)
  refine zl_pureL rfl ?_
  refine zl_nil ?_
  refine zk_seq ?_
  iterate 2 (refine zc_seq ?_)
  refine zc_region ?_
  refine zl_pureL rfl ?_
  refine zl_nil ?_
  refine zk_seq ?_
  refine zc_block ?_
  refine zc_loopW (ι := Nat × List UInt8) (fun q u => [(3, .slice (some ⟨b, 0, none⟩) l.length c), (4, .int .i64 (q.1 : Nat))]) (fun q u => q.1 ≤ l.length ∧ Chg w u No ∧ q.2.length = l.length ∧ BlkB u b 5 (cellsB q.2 ++ z)) (fun q u => l.length - q.1) (0, l) ⟨Nat.zero_le _, hC, rfl, hB⟩ ?_ ?_
  · exact ⟨rfl, rfl, trivial⟩
  rintro ⟨k, m⟩ u ⟨hk, hC, hm, hB⟩
  dsimp only at hk hm hB ⊢
  by_cases hkl : k < l.length
  · have hcell : u.cell? ⟨b, k, none⟩ = some (.int .u8 ((m.getD k 0).toNat : Nat)) := by
      rw [hB.cell, List.getElem?_append_left (by rw [cellsB_len, hm]; exact hkl), cellsB_at _ k (by rw [hm]; exact hkl)]
    have hb8 := byte_lt m k
    obtain ⟨cc, hcc⟩ : ∃ x, x = (m.getD k 0).toNat := ⟨_, rfl⟩
    rw [← hcc] at hcell hb8
    by_cases h65 : 65 ≤ cc
    · by_cases h90 : cc ≤ 90
      · iterate 2 (refine zc_seq ?_)
        refine zc_region ?_
        iterate 2 (refine zl_pureL rfl ?_)
        refine z_len want_none (by decide) rfl ?_
        refine z_cmpB (r := true) want_none (by decide) rfl rfl rfl (iff_of_true rfl (by omega)) ?_
        refine zl_nil ?_
        refine zk_seq ?_
        refine zc_true rfl ?_
        refine zc_skip ?_
        refine zk_seq ?_
        refine zc_seq ?_
        refine zc_block ?_
        refine zc_seq ?_
        refine zc_region ?_
        iterate 2 (refine zl_pureL rfl ?_)
        refine z_ia want_none (by decide) rfl rfl (by omega) (by omega) ?_
        refine z_load1 (by first | exact want_none | exact want_L rfl) (by decide) rfl (cell_at hcell (by omega)) ?_
        refine z_cmpB (r := true) want_none (by decide) rfl rfl rfl (iff_of_true rfl (by omega)) ?_
        iterate 3 (refine zl_pureL rfl ?_)
        refine z_ia (want_L rfl) (by decide) rfl rfl (by omega) (by omega) ?_
        refine z_load1 (by first | exact want_none | exact want_L rfl) (by decide) rfl (cell_at hcell (by omega)) ?_
        refine z_cmpB (r := true) (want_L rfl) (by decide) rfl rfl rfl (iff_of_true rfl (by omega)) ?_
        refine zl_pureL rfl ?_
        refine zl_nil ?_
        refine zk_seq ?_
        refine zc_true rfl ?_
        refine zc_region ?_
        iterate 4 (refine zl_pureL rfl ?_)
        refine z_ia want_none (by decide) rfl rfl (by omega) (by omega) ?_
        refine z_load1 (by first | exact want_none | exact want_L rfl) (by decide) rfl (cell_at hcell (by omega)) ?_
        refine z_addW (by first | exact want_none | exact want_L rfl) (by decide) rfl rfl (fun c2 hc2 => ?_)
        refine z_ia want_none (by decide) rfl rfl (by omega) (by omega) ?_
        refine z_storeB (o := k) (by first | exact want_none | exact want_L rfl) (ev_ptr' rfl (by omega)) rfl hB (by rw [List.length_append, cellsB_len, hm]; omega) rfl rfl (fun u2 hB2 hC2 => ?_)
        rw [cellsB_setN _ _ _ hc2 _ (by rw [hm]; exact hkl)] at hB2
        refine zl_nil ?_
        refine zk_norm_block ?_
        refine zk_seq ?_
        refine zc_region ?_
        refine zl_pureL rfl ?_
        refine z_add want_none (by decide) rfl rfl (by omega) (by omega) ?_
        refine zl_pureL rfl ?_
        refine zl_nil ?_
        exact zk_loopW (k + 1, m.set k (UInt8.ofNat c2)) ⟨by dsimp only; omega, hC.trans hC2 (fun i hi he => by subst he; omega), by dsimp only; rw [List.length_set]; exact hm, hB2⟩ (by dsimp only; omega) ⟨rfl, get_int rfl (by dsimp only; omega), trivial⟩
      · iterate 2 (refine zc_seq ?_)
        refine zc_region ?_
        iterate 2 (refine zl_pureL rfl ?_)
        refine z_len want_none (by decide) rfl ?_
        refine z_cmpB (r := true) want_none (by decide) rfl rfl rfl (iff_of_true rfl (by omega)) ?_
        refine zl_nil ?_
        refine zk_seq ?_
        refine zc_true rfl ?_
        refine zc_skip ?_
        refine zk_seq ?_
        refine zc_seq ?_
        refine zc_block ?_
        refine zc_seq ?_
        refine zc_region ?_
        iterate 2 (refine zl_pureL rfl ?_)
        refine z_ia want_none (by decide) rfl rfl (by omega) (by omega) ?_
        refine z_load1 (by first | exact want_none | exact want_L rfl) (by decide) rfl (cell_at hcell (by omega)) ?_
        refine z_cmpB (r := true) want_none (by decide) rfl rfl rfl (iff_of_true rfl (by omega)) ?_
        iterate 3 (refine zl_pureL rfl ?_)
        refine z_ia (want_L rfl) (by decide) rfl rfl (by omega) (by omega) ?_
        refine z_load1 (by first | exact want_none | exact want_L rfl) (by decide) rfl (cell_at hcell (by omega)) ?_
        refine z_cmpB (r := false) (want_L rfl) (by decide) rfl rfl rfl (iff_of_false Bool.false_ne_true (by omega)) ?_
        refine zl_pureL rfl ?_
        refine zl_nil ?_
        refine zk_seq ?_
        refine zc_false rfl ?_
        refine zc_skip ?_
        refine zk_norm_block ?_
        refine zk_seq ?_
        refine zc_region ?_
        refine zl_pureL rfl ?_
        refine z_add want_none (by decide) rfl rfl (by omega) (by omega) ?_
        refine zl_pureL rfl ?_
        refine zl_nil ?_
        exact zk_loopW (k + 1, m) ⟨by dsimp only; omega, hC, hm, hB⟩ (by dsimp only; omega) ⟨rfl, get_int rfl (by dsimp only; omega), trivial⟩
    · iterate 2 (refine zc_seq ?_)
      refine zc_region ?_
      iterate 2 (refine zl_pureL rfl ?_)
      refine z_len want_none (by decide) rfl ?_
      refine z_cmpB (r := true) want_none (by decide) rfl rfl rfl (iff_of_true rfl (by omega)) ?_
      refine zl_nil ?_
      refine zk_seq ?_
      refine zc_true rfl ?_
      refine zc_skip ?_
      refine zk_seq ?_
      refine zc_seq ?_
      refine zc_block ?_
      refine zc_seq ?_
      refine zc_region ?_
      iterate 2 (refine zl_pureL rfl ?_)
      refine z_ia want_none (by decide) rfl rfl (by omega) (by omega) ?_
      refine z_load1 (by first | exact want_none | exact want_L rfl) (by decide) rfl (cell_at hcell (by omega)) ?_
      refine z_cmpB (r := false) want_none (by decide) rfl rfl rfl (iff_of_false Bool.false_ne_true (by omega)) ?_
      iterate 3 (refine zl_pureL rfl ?_)
      iterate 3 (refine zl_skip rfl ?_)
      refine zl_pureL rfl ?_
      refine zl_nil ?_
      refine zk_seq ?_
      refine zc_false rfl ?_
      refine zc_skip ?_
      refine zk_norm_block ?_
      refine zk_seq ?_
      refine zc_region ?_
      refine zl_pureL rfl ?_
      refine z_add want_none (by decide) rfl rfl (by omega) (by omega) ?_
      refine zl_pureL rfl ?_
      refine zl_nil ?_
      exact zk_loopW (k + 1, m) ⟨by dsimp only; omega, hC, hm, hB⟩ (by dsimp only; omega) ⟨rfl, get_int rfl (by dsimp only; omega), trivial⟩
  · have hrb := hB.rb (c := c) (by omega)
    rw [hm] at hrb
    iterate 2 (refine zc_seq ?_)
    refine zc_region ?_
    iterate 2 (refine zl_pureL rfl ?_)
    refine z_len want_none (by decide) rfl ?_
    refine z_cmpB (r := false) want_none (by decide) rfl rfl rfl (iff_of_false Bool.false_ne_true (by omega)) ?_
    refine zl_nil ?_
    refine zk_seq ?_
    refine zc_false rfl ?_
    refine zc_exit ?_
    iterate 2 (refine zk_exit_then ?_)
    refine zk_exit_block ?_
    refine zk_seq ?_
    refine zc_seq ?_
    refine zc_region ?_
    refine zl_pureL rfl ?_
    refine z_convBS (by first | exact want_none | exact want_L rfl) (by decide) rfl hrb ?_
    refine zl_pureL rfl ?_
    refine zl_nil ?_
    refine zk_seq ?_
    refine zc_ret ?_
    exact zk_ret1 (.inr rfl) rfl rfl ⟨⟨_, rfl, hm⟩, hC⟩
set_option maxHeartbeats 8000000 in
theorem upTo_calls {w : World} (l p : List UInt8) (hl : l.length ≤ big) (hp : p.length ≤ big) : Calls Try.prog 71 [.string (bs l), .string (bs p)].toArray w fun e w' => (∃ k : Nat, e = .returned (.int .i64 k) ∧ k ≤ l.length) ∧ w' = w := by
  have hbig : big = 1000000000000 := rfl
  refine calls_zc (n := 23) (f := 71) (fn := Try.f71) Try.func71 rfl rfl (by simp) ?_
  repeat' (first | (show ZL _ _ _ _ _ _ _; first | refine zl_nil ?_ | refine a_pure ?_ | refine a_skip ?_ | (show ZL _ _ _ (⟨_, (.load _ _), _, _, _, _⟩ :: _) _ _ _; first | refine a_loadB rfl ?_ | refine a_load1 rfl ?_ | refine a_loadAB rfl ?_) | (show ZL _ _ _ (⟨_, (.call _), _, _, _, _⟩ :: _) _ _ _; first | refine a_len rfl ?_ | refine a_lenL rfl ?_ | refine a_min rfl rfl fun _ _ _ _ => ?_ | refine a_max rfl rfl fun _ _ _ _ => ?_) | (show ZL _ _ _ (⟨_, (.binOp .add _ _ _ _), _, _, _, _⟩ :: _) _ _ _; first | refine a_catW rfl rfl fun _ _ => ?_ | refine a_add rfl rfl ?_ | refine a_add8 rfl rfl ?_ | refine a_addW rfl rfl fun _ _ => ?_) | (show ZL _ _ _ (⟨_, (.binOp .sub _ _ _ _), _, _, _, _⟩ :: _) _ _ _; first | refine a_sub rfl rfl ?_ | refine a_subW rfl rfl fun _ _ => ?_) | refine a_fa rfl ?_ | refine a_ia rfl rfl ?_ | refine a_cutW rfl rfl rfl fun _ _ => ?_ | refine a_idxW rfl rfl fun _ _ => ?_ | refine a_conv rfl ?_ | (show ZL _ _ _ (⟨_, (.binOp _ _ _ _ _), _, _, _, _⟩ :: _) _ _ _; first | refine a_cmpT rfl rfl rfl ?_ | refine a_cmpF rfl rfl rfl ?_ | refine a_shr rfl rfl fun _ _ => ?_ | refine a_and rfl rfl fun _ _ => ?_ | refine a_mul rfl rfl ?_) | (show ZL _ _ _ (⟨_, (.binOp _ _ _ _ _), _, _, _, _⟩ :: _) _ _ _; first | refine a_cmp rfl rfl rfl (fun _ => ?_) fun _ => ?_ | refine a_eq rfl rfl (fun _ => ?_) fun _ => ?_ | refine a_ne rfl rfl (fun _ => ?_) fun _ => ?_)) | (show ZC _ _ _ _ _ _; first | refine zc_seq ?_ | refine zc_region ?_ | refine zc_block ?_ | refine zc_skip ?_ | refine zc_exit ?_ | refine zc_ret ?_ | refine zc_true rfl ?_ | refine zc_false rfl ?_) | (show ZK _ _ _ _ _; first | refine zk_seq ?_ | refine zk_exit_then ?_ | refine zk_ret_then ?_ | refine zk_ret_block ?_ | refine zk_norm_block ?_ | refine zk_exit_block ?_ | refine zk_exit_block' rfl ?_))
  refine zc_loopW (ι := Nat) (fun i u => [(0, .string (bs l)), (1, .string (bs p)), (5, .int .i64 (i : Nat))]) (fun i u => i ≤ l.length ∧ u = w) (fun i u => l.length - i) 0 ⟨Nat.zero_le _, rfl⟩ ⟨rfl, rfl, rfl, trivial⟩ ?_
  rintro i u ⟨hi, hu⟩
  obtain rfl := hu.symm
  by_cases hlt : i < l.length
  · repeat' (first | (show ZL _ _ _ _ _ _ _; first | refine zl_nil ?_ | refine a_pure ?_ | refine a_skip ?_ | (show ZL _ _ _ (⟨_, (.load _ _), _, _, _, _⟩ :: _) _ _ _; first | refine a_loadB rfl ?_ | refine a_load1 rfl ?_ | refine a_loadAB rfl ?_) | (show ZL _ _ _ (⟨_, (.call _), _, _, _, _⟩ :: _) _ _ _; first | refine a_len rfl ?_ | refine a_lenL rfl ?_ | refine a_min rfl rfl fun _ _ _ _ => ?_ | refine a_max rfl rfl fun _ _ _ _ => ?_) | (show ZL _ _ _ (⟨_, (.binOp .add _ _ _ _), _, _, _, _⟩ :: _) _ _ _; first | refine a_catW rfl rfl fun _ _ => ?_ | refine a_add rfl rfl ?_ | refine a_add8 rfl rfl ?_ | refine a_addW rfl rfl fun _ _ => ?_) | (show ZL _ _ _ (⟨_, (.binOp .sub _ _ _ _), _, _, _, _⟩ :: _) _ _ _; first | refine a_sub rfl rfl ?_ | refine a_subW rfl rfl fun _ _ => ?_) | refine a_fa rfl ?_ | refine a_ia rfl rfl ?_ | refine a_cutW rfl rfl rfl fun _ _ => ?_ | refine a_idxW rfl rfl fun _ _ => ?_ | refine a_conv rfl ?_ | (show ZL _ _ _ (⟨_, (.binOp _ _ _ _ _), _, _, _, _⟩ :: _) _ _ _; first | refine a_cmpT rfl rfl rfl ?_ | refine a_cmpF rfl rfl rfl ?_ | refine a_shr rfl rfl fun _ _ => ?_ | refine a_and rfl rfl fun _ _ => ?_ | refine a_mul rfl rfl ?_) | (show ZL _ _ _ (⟨_, (.binOp _ _ _ _ _), _, _, _, _⟩ :: _) _ _ _; first | refine a_cmp rfl rfl rfl (fun _ => ?_) fun _ => ?_ | refine a_eq rfl rfl (fun _ => ?_) fun _ => ?_ | refine a_ne rfl rfl (fun _ => ?_) fun _ => ?_)) | (show ZC _ _ _ _ _ _; first | refine zc_seq ?_ | refine zc_region ?_ | refine zc_block ?_ | refine zc_skip ?_ | refine zc_exit ?_ | refine zc_ret ?_ | refine zc_true rfl ?_ | refine zc_false rfl ?_) | (show ZK _ _ _ _ _; first | refine zk_seq ?_ | refine zk_exit_then ?_ | refine zk_ret_then ?_ | refine zk_ret_block ?_ | refine zk_norm_block ?_ | refine zk_exit_block ?_ | refine zk_exit_block' rfl ?_))
    rename_i r hr
    refine zl_call (by first | exact want_none | exact want_L rfl) rfl (by decide) rfl (index_calls p r hp (by omega)) ?_
    rintro _ v ⟨⟨k, rfl, h1, h2, _⟩, hv⟩
    obtain rfl := hv.symm
    refine ⟨_, rfl, ?_⟩
    repeat' (first | (show ZL _ _ _ _ _ _ _; first | refine zl_nil ?_ | refine a_pure ?_ | refine a_skip ?_ | (show ZL _ _ _ (⟨_, (.load _ _), _, _, _, _⟩ :: _) _ _ _; first | refine a_loadB rfl ?_ | refine a_load1 rfl ?_ | refine a_loadAB rfl ?_) | (show ZL _ _ _ (⟨_, (.call _), _, _, _, _⟩ :: _) _ _ _; first | refine a_len rfl ?_ | refine a_lenL rfl ?_ | refine a_min rfl rfl fun _ _ _ _ => ?_ | refine a_max rfl rfl fun _ _ _ _ => ?_) | (show ZL _ _ _ (⟨_, (.binOp .add _ _ _ _), _, _, _, _⟩ :: _) _ _ _; first | refine a_catW rfl rfl fun _ _ => ?_ | refine a_add rfl rfl ?_ | refine a_add8 rfl rfl ?_ | refine a_addW rfl rfl fun _ _ => ?_) | (show ZL _ _ _ (⟨_, (.binOp .sub _ _ _ _), _, _, _, _⟩ :: _) _ _ _; first | refine a_sub rfl rfl ?_ | refine a_subW rfl rfl fun _ _ => ?_) | refine a_fa rfl ?_ | refine a_ia rfl rfl ?_ | refine a_cutW rfl rfl rfl fun _ _ => ?_ | refine a_idxW rfl rfl fun _ _ => ?_ | refine a_conv rfl ?_ | (show ZL _ _ _ (⟨_, (.binOp _ _ _ _ _), _, _, _, _⟩ :: _) _ _ _; first | refine a_cmpT rfl rfl rfl ?_ | refine a_cmpF rfl rfl rfl ?_ | refine a_shr rfl rfl fun _ _ => ?_ | refine a_and rfl rfl fun _ _ => ?_ | refine a_mul rfl rfl ?_) | (show ZL _ _ _ (⟨_, (.binOp _ _ _ _ _), _, _, _, _⟩ :: _) _ _ _; first | refine a_cmp rfl rfl rfl (fun _ => ?_) fun _ => ?_ | refine a_eq rfl rfl (fun _ => ?_) fun _ => ?_ | refine a_ne rfl rfl (fun _ => ?_) fun _ => ?_)) | (show ZC _ _ _ _ _ _; first | refine zc_seq ?_ | refine zc_region ?_ | refine zc_block ?_ | refine zc_skip ?_ | refine zc_exit ?_ | refine zc_ret ?_ | refine zc_true rfl ?_ | refine zc_false rfl ?_) | (show ZK _ _ _ _ _; first | refine zk_seq ?_ | refine zk_exit_then ?_ | refine zk_ret_then ?_ | refine zk_ret_block ?_ | refine zk_norm_block ?_ | refine zk_exit_block ?_ | refine zk_exit_block' rfl ?_))
    · exact zk_ret1 (.inr rfl) rfl rfl ⟨⟨i, rfl, hi⟩, rfl⟩
    · exact zk_loopW (i + 1) ⟨by omega, rfl⟩ (by omega) ⟨rfl, rfl, get_int rfl (by omega), trivial⟩
  · repeat' (first | (show ZL _ _ _ _ _ _ _; first | refine zl_nil ?_ | refine a_pure ?_ | refine a_skip ?_ | (show ZL _ _ _ (⟨_, (.load _ _), _, _, _, _⟩ :: _) _ _ _; first | refine a_loadB rfl ?_ | refine a_load1 rfl ?_ | refine a_loadAB rfl ?_) | (show ZL _ _ _ (⟨_, (.call _), _, _, _, _⟩ :: _) _ _ _; first | refine a_len rfl ?_ | refine a_lenL rfl ?_ | refine a_min rfl rfl fun _ _ _ _ => ?_ | refine a_max rfl rfl fun _ _ _ _ => ?_) | (show ZL _ _ _ (⟨_, (.binOp .add _ _ _ _), _, _, _, _⟩ :: _) _ _ _; first | refine a_catW rfl rfl fun _ _ => ?_ | refine a_add rfl rfl ?_ | refine a_add8 rfl rfl ?_ | refine a_addW rfl rfl fun _ _ => ?_) | (show ZL _ _ _ (⟨_, (.binOp .sub _ _ _ _), _, _, _, _⟩ :: _) _ _ _; first | refine a_sub rfl rfl ?_ | refine a_subW rfl rfl fun _ _ => ?_) | refine a_fa rfl ?_ | refine a_ia rfl rfl ?_ | refine a_cutW rfl rfl rfl fun _ _ => ?_ | refine a_idxW rfl rfl fun _ _ => ?_ | refine a_conv rfl ?_ | (show ZL _ _ _ (⟨_, (.binOp _ _ _ _ _), _, _, _, _⟩ :: _) _ _ _; first | refine a_cmpT rfl rfl rfl ?_ | refine a_cmpF rfl rfl rfl ?_ | refine a_shr rfl rfl fun _ _ => ?_ | refine a_and rfl rfl fun _ _ => ?_ | refine a_mul rfl rfl ?_) | (show ZL _ _ _ (⟨_, (.binOp _ _ _ _ _), _, _, _, _⟩ :: _) _ _ _; first | refine a_cmp rfl rfl rfl (fun _ => ?_) fun _ => ?_ | refine a_eq rfl rfl (fun _ => ?_) fun _ => ?_ | refine a_ne rfl rfl (fun _ => ?_) fun _ => ?_)) | (show ZC _ _ _ _ _ _; first | refine zc_seq ?_ | refine zc_region ?_ | refine zc_block ?_ | refine zc_skip ?_ | refine zc_exit ?_ | refine zc_ret ?_ | refine zc_true rfl ?_ | refine zc_false rfl ?_) | (show ZK _ _ _ _ _; first | refine zk_seq ?_ | refine zk_exit_then ?_ | refine zk_ret_then ?_ | refine zk_ret_block ?_ | refine zk_norm_block ?_ | refine zk_exit_block ?_ | refine zk_exit_block' rfl ?_))
    exact zk_ret1 (.inr rfl) rfl rfl ⟨⟨_, rfl, Nat.le_refl _⟩, rfl⟩
set_option maxHeartbeats 8000000 in
theorem dig_calls {w : World} (k : Nat) (hk : k ≤ 1048576) : Calls Try.prog 86 [.int .i64 k].toArray w fun e w' => (∃ s : List UInt8, e = .returned (.string (bs s)) ∧ s.length ≤ 1048580) ∧ w' = w := by
  refine calls_zc (n := 23) (f := 86) (fn := Try.f86) Try.func86 rfl rfl (by simp) ?_
  repeat' (first | (show ZL _ _ _ _ _ _ _; first | refine zl_nil ?_ | refine a_pure ?_ | refine a_skip ?_ | (show ZL _ _ _ (⟨_, (.load _ _), _, _, _, _⟩ :: _) _ _ _; first | refine a_loadB rfl ?_ | refine a_load1 rfl ?_ | refine a_loadAB rfl ?_) | (show ZL _ _ _ (⟨_, (.call _), _, _, _, _⟩ :: _) _ _ _; first | refine a_len rfl ?_ | refine a_lenL rfl ?_ | refine a_min rfl rfl fun _ _ _ _ => ?_ | refine a_max rfl rfl fun _ _ _ _ => ?_) | (show ZL _ _ _ (⟨_, (.binOp .add _ _ _ _), _, _, _, _⟩ :: _) _ _ _; first | refine a_catW rfl rfl fun _ _ => ?_ | refine a_add rfl rfl ?_ | refine a_add8 rfl rfl ?_ | refine a_addW rfl rfl fun _ _ => ?_) | (show ZL _ _ _ (⟨_, (.binOp .sub _ _ _ _), _, _, _, _⟩ :: _) _ _ _; first | refine a_sub rfl rfl ?_ | refine a_subW rfl rfl fun _ _ => ?_) | refine a_fa rfl ?_ | refine a_ia rfl rfl ?_ | refine a_cutW rfl rfl rfl fun _ _ => ?_ | refine a_idxW rfl rfl fun _ _ => ?_ | refine a_conv rfl ?_ | (show ZL _ _ _ (⟨_, (.binOp _ _ _ _ _), _, _, _, _⟩ :: _) _ _ _; first | refine a_cmpT rfl rfl rfl ?_ | refine a_cmpF rfl rfl rfl ?_ | refine a_shr rfl rfl fun _ _ => ?_ | refine a_and rfl rfl fun _ _ => ?_ | refine a_mul rfl rfl ?_) | (show ZL _ _ _ (⟨_, (.binOp _ _ _ _ _), _, _, _, _⟩ :: _) _ _ _; first | refine a_cmp rfl rfl rfl (fun _ => ?_) fun _ => ?_ | refine a_eq rfl rfl (fun _ => ?_) fun _ => ?_ | refine a_ne rfl rfl (fun _ => ?_) fun _ => ?_)) | (show ZC _ _ _ _ _ _; first | refine zc_seq ?_ | refine zc_region ?_ | refine zc_block ?_ | refine zc_skip ?_ | refine zc_exit ?_ | refine zc_ret ?_ | refine zc_true rfl ?_ | refine zc_false rfl ?_) | (show ZK _ _ _ _ _; first | refine zk_seq ?_ | refine zk_exit_then ?_ | refine zk_ret_then ?_ | refine zk_ret_block ?_ | refine zk_norm_block ?_ | refine zk_exit_block ?_ | refine zk_exit_block' rfl ?_))
  refine zc_loopW (ι := Nat × List UInt8) (fun q u => [(0, .int .i64 (q.1 : Nat)), (3, .string (bs q.2))]) (fun q u => q.1 + q.2.length ≤ 1048576 ∧ u = w) (fun q u => q.1) (k, []) ⟨hk, rfl⟩ ⟨rfl, rfl, trivial⟩ ?_
  rintro ⟨m, s⟩ u ⟨hm, hu⟩
  obtain rfl := hu.symm
  dsimp only at hm ⊢
  by_cases h9 : 9 < m
  · iterate 2 (refine zc_seq ?_)
    refine zc_region ?_
    refine zl_pureL rfl ?_
    refine z_cmpB (r := true) want_none (by decide) rfl rfl rfl (iff_of_true rfl (by omega)) ?_
    refine zl_nil ?_
    refine zk_seq ?_
    refine zc_true rfl ?_
    refine zc_skip ?_
    refine zk_seq ?_
    refine zc_block ?_
    refine zc_seq ?_
    refine zc_region ?_
    refine zl_pureL rfl ?_
    refine z_rem (by first | exact want_none | exact want_L rfl) (by decide) rfl rfl (by decide) ?_
    have e10 : (m : Int).tmod 10 = ((m % 10 : Nat) : Int) := by rw [Int.tmod_eq_emod_of_nonneg (by omega)]; omega
    rw [e10]
    repeat' (first | (show ZL _ _ _ _ _ _ _; first | refine zl_nil ?_ | refine a_pure ?_ | refine a_skip ?_ | (show ZL _ _ _ (⟨_, (.load _ _), _, _, _, _⟩ :: _) _ _ _; first | refine a_loadB rfl ?_ | refine a_load1 rfl ?_ | refine a_loadAB rfl ?_) | (show ZL _ _ _ (⟨_, (.call _), _, _, _, _⟩ :: _) _ _ _; first | refine a_len rfl ?_ | refine a_lenL rfl ?_ | refine a_min rfl rfl fun _ _ _ _ => ?_ | refine a_max rfl rfl fun _ _ _ _ => ?_) | (show ZL _ _ _ (⟨_, (.binOp .add _ _ _ _), _, _, _, _⟩ :: _) _ _ _; first | refine a_catW rfl rfl fun _ _ => ?_ | refine a_add rfl rfl ?_ | refine a_add8 rfl rfl ?_ | refine a_addW rfl rfl fun _ _ => ?_) | (show ZL _ _ _ (⟨_, (.binOp .sub _ _ _ _), _, _, _, _⟩ :: _) _ _ _; first | refine a_sub rfl rfl ?_ | refine a_subW rfl rfl fun _ _ => ?_) | refine a_fa rfl ?_ | refine a_ia rfl rfl ?_ | refine a_cutW rfl rfl rfl fun _ _ => ?_ | refine a_idxW rfl rfl fun _ _ => ?_ | refine a_conv rfl ?_ | (show ZL _ _ _ (⟨_, (.binOp _ _ _ _ _), _, _, _, _⟩ :: _) _ _ _; first | refine a_cmpT rfl rfl rfl ?_ | refine a_cmpF rfl rfl rfl ?_ | refine a_shr rfl rfl fun _ _ => ?_ | refine a_and rfl rfl fun _ _ => ?_ | refine a_mul rfl rfl ?_) | (show ZL _ _ _ (⟨_, (.binOp _ _ _ _ _), _, _, _, _⟩ :: _) _ _ _; first | refine a_cmp rfl rfl rfl (fun _ => ?_) fun _ => ?_ | refine a_eq rfl rfl (fun _ => ?_) fun _ => ?_ | refine a_ne rfl rfl (fun _ => ?_) fun _ => ?_)) | (show ZC _ _ _ _ _ _; first | refine zc_seq ?_ | refine zc_region ?_ | refine zc_block ?_ | refine zc_skip ?_ | refine zc_exit ?_ | refine zc_ret ?_ | refine zc_true rfl ?_ | refine zc_false rfl ?_) | (show ZK _ _ _ _ _; first | refine zk_seq ?_ | refine zk_exit_then ?_ | refine zk_ret_then ?_ | refine zk_ret_block ?_ | refine zk_norm_block ?_ | refine zk_exit_block ?_ | refine zk_exit_block' rfl ?_))
    refine z_quo (by first | exact want_none | exact want_L rfl) (by decide) rfl rfl (by decide) ?_
    have e11 : (m : Int).tdiv 10 = ((m / 10 : Nat) : Int) := by rw [Int.tdiv_eq_ediv_of_nonneg (by omega)]; omega
    rw [e11, wrap_i64 (by omega) (by omega)]
    repeat' (first | (show ZL _ _ _ _ _ _ _; first | refine zl_nil ?_ | refine a_pure ?_ | refine a_skip ?_ | (show ZL _ _ _ (⟨_, (.load _ _), _, _, _, _⟩ :: _) _ _ _; first | refine a_loadB rfl ?_ | refine a_load1 rfl ?_ | refine a_loadAB rfl ?_) | (show ZL _ _ _ (⟨_, (.call _), _, _, _, _⟩ :: _) _ _ _; first | refine a_len rfl ?_ | refine a_lenL rfl ?_ | refine a_min rfl rfl fun _ _ _ _ => ?_ | refine a_max rfl rfl fun _ _ _ _ => ?_) | (show ZL _ _ _ (⟨_, (.binOp .add _ _ _ _), _, _, _, _⟩ :: _) _ _ _; first | refine a_catW rfl rfl fun _ _ => ?_ | refine a_add rfl rfl ?_ | refine a_add8 rfl rfl ?_ | refine a_addW rfl rfl fun _ _ => ?_) | (show ZL _ _ _ (⟨_, (.binOp .sub _ _ _ _), _, _, _, _⟩ :: _) _ _ _; first | refine a_sub rfl rfl ?_ | refine a_subW rfl rfl fun _ _ => ?_) | refine a_fa rfl ?_ | refine a_ia rfl rfl ?_ | refine a_cutW rfl rfl rfl fun _ _ => ?_ | refine a_idxW rfl rfl fun _ _ => ?_ | refine a_conv rfl ?_ | (show ZL _ _ _ (⟨_, (.binOp _ _ _ _ _), _, _, _, _⟩ :: _) _ _ _; first | refine a_cmpT rfl rfl rfl ?_ | refine a_cmpF rfl rfl rfl ?_ | refine a_shr rfl rfl fun _ _ => ?_ | refine a_and rfl rfl fun _ _ => ?_ | refine a_mul rfl rfl ?_) | (show ZL _ _ _ (⟨_, (.binOp _ _ _ _ _), _, _, _, _⟩ :: _) _ _ _; first | refine a_cmp rfl rfl rfl (fun _ => ?_) fun _ => ?_ | refine a_eq rfl rfl (fun _ => ?_) fun _ => ?_ | refine a_ne rfl rfl (fun _ => ?_) fun _ => ?_)) | (show ZC _ _ _ _ _ _; first | refine zc_seq ?_ | refine zc_region ?_ | refine zc_block ?_ | refine zc_skip ?_ | refine zc_exit ?_ | refine zc_ret ?_ | refine zc_true rfl ?_ | refine zc_false rfl ?_) | (show ZK _ _ _ _ _; first | refine zk_seq ?_ | refine zk_exit_then ?_ | refine zk_ret_then ?_ | refine zk_ret_block ?_ | refine zk_norm_block ?_ | refine zk_exit_block ?_ | refine zk_exit_block' rfl ?_))
    rename_i s2 hs2
    exact zk_loopW (m / 10, s2) ⟨by dsimp only; omega, rfl⟩ (by dsimp only; omega) ⟨rfl, rfl, trivial⟩
  · repeat' (first | (show ZL _ _ _ _ _ _ _; first | refine zl_nil ?_ | refine a_pure ?_ | refine a_skip ?_ | (show ZL _ _ _ (⟨_, (.load _ _), _, _, _, _⟩ :: _) _ _ _; first | refine a_loadB rfl ?_ | refine a_load1 rfl ?_ | refine a_loadAB rfl ?_) | (show ZL _ _ _ (⟨_, (.call _), _, _, _, _⟩ :: _) _ _ _; first | refine a_len rfl ?_ | refine a_lenL rfl ?_ | refine a_min rfl rfl fun _ _ _ _ => ?_ | refine a_max rfl rfl fun _ _ _ _ => ?_) | (show ZL _ _ _ (⟨_, (.binOp .add _ _ _ _), _, _, _, _⟩ :: _) _ _ _; first | refine a_catW rfl rfl fun _ _ => ?_ | refine a_add rfl rfl ?_ | refine a_add8 rfl rfl ?_ | refine a_addW rfl rfl fun _ _ => ?_) | (show ZL _ _ _ (⟨_, (.binOp .sub _ _ _ _), _, _, _, _⟩ :: _) _ _ _; first | refine a_sub rfl rfl ?_ | refine a_subW rfl rfl fun _ _ => ?_) | refine a_fa rfl ?_ | refine a_ia rfl rfl ?_ | refine a_cutW rfl rfl rfl fun _ _ => ?_ | refine a_idxW rfl rfl fun _ _ => ?_ | refine a_conv rfl ?_ | (show ZL _ _ _ (⟨_, (.binOp _ _ _ _ _), _, _, _, _⟩ :: _) _ _ _; first | refine a_cmpT rfl rfl rfl ?_ | refine a_cmpF rfl rfl rfl ?_ | refine a_shr rfl rfl fun _ _ => ?_ | refine a_and rfl rfl fun _ _ => ?_ | refine a_mul rfl rfl ?_) | (show ZL _ _ _ (⟨_, (.binOp _ _ _ _ _), _, _, _, _⟩ :: _) _ _ _; first | refine a_cmp rfl rfl rfl (fun _ => ?_) fun _ => ?_ | refine a_eq rfl rfl (fun _ => ?_) fun _ => ?_ | refine a_ne rfl rfl (fun _ => ?_) fun _ => ?_)) | (show ZC _ _ _ _ _ _; first | refine zc_seq ?_ | refine zc_region ?_ | refine zc_block ?_ | refine zc_skip ?_ | refine zc_exit ?_ | refine zc_ret ?_ | refine zc_true rfl ?_ | refine zc_false rfl ?_) | (show ZK _ _ _ _ _; first | refine zk_seq ?_ | refine zk_exit_then ?_ | refine zk_ret_then ?_ | refine zk_ret_block ?_ | refine zk_norm_block ?_ | refine zk_exit_block ?_ | refine zk_exit_block' rfl ?_))
    rename_i s2 hs2
    exact zk_ret1 (.inr rfl) rfl rfl ⟨⟨_, rfl, by omega⟩, rfl⟩
set_option maxHeartbeats 8000000 in
theorem port_calls {w : World} (a p : List UInt8) (ha : a.length ≤ big) (hp : p.length ≤ big) : Calls Try.prog 74 [.string (bs a), .string (bs p)].toArray w fun e w' => (∃ (k : Nat) (q : Bool), e = .returned (.tuple #[.int .i64 k, .bool q]) ∧ k ≤ 65535) ∧ w' = w := by
  refine calls_zc (n := 33) (f := 74) (fn := Try.f74) Try.func74 rfl rfl (by simp) ?_
  repeat' (first | (show ZL _ _ _ _ _ _ _; first | refine zl_nil ?_ | refine a_pure ?_ | refine a_skip ?_ | (show ZL _ _ _ (⟨_, (.load _ _), _, _, _, _⟩ :: _) _ _ _; first | refine a_loadB rfl ?_ | refine a_load1 rfl ?_ | refine a_loadAB rfl ?_) | (show ZL _ _ _ (⟨_, (.call _), _, _, _, _⟩ :: _) _ _ _; first | refine a_len rfl ?_ | refine a_lenL rfl ?_ | refine a_min rfl rfl fun _ _ _ _ => ?_ | refine a_max rfl rfl fun _ _ _ _ => ?_) | (show ZL _ _ _ (⟨_, (.binOp .add _ _ _ _), _, _, _, _⟩ :: _) _ _ _; first | refine a_catW rfl rfl fun _ _ => ?_ | refine a_add rfl rfl ?_ | refine a_add8 rfl rfl ?_ | refine a_addW rfl rfl fun _ _ => ?_) | (show ZL _ _ _ (⟨_, (.binOp .sub _ _ _ _), _, _, _, _⟩ :: _) _ _ _; first | refine a_sub rfl rfl ?_ | refine a_subW rfl rfl fun _ _ => ?_) | refine a_fa rfl ?_ | refine a_ia rfl rfl ?_ | refine a_cutW rfl rfl rfl fun _ _ => ?_ | refine a_idxW rfl rfl fun _ _ => ?_ | refine a_conv rfl ?_ | (show ZL _ _ _ (⟨_, (.binOp _ _ _ _ _), _, _, _, _⟩ :: _) _ _ _; first | refine a_cmpT rfl rfl rfl ?_ | refine a_cmpF rfl rfl rfl ?_ | refine a_shr rfl rfl fun _ _ => ?_ | refine a_and rfl rfl fun _ _ => ?_ | refine a_mul rfl rfl ?_) | (show ZL _ _ _ (⟨_, (.binOp _ _ _ _ _), _, _, _, _⟩ :: _) _ _ _; first | refine a_cmp rfl rfl rfl (fun _ => ?_) fun _ => ?_ | refine a_eq rfl rfl (fun _ => ?_) fun _ => ?_ | refine a_ne rfl rfl (fun _ => ?_) fun _ => ?_)) | (show ZC _ _ _ _ _ _; first | refine zc_seq ?_ | refine zc_region ?_ | refine zc_block ?_ | refine zc_skip ?_ | refine zc_exit ?_ | refine zc_ret ?_ | refine zc_true rfl ?_ | refine zc_false rfl ?_) | (show ZK _ _ _ _ _; first | refine zk_seq ?_ | refine zk_exit_then ?_ | refine zk_ret_then ?_ | refine zk_ret_block ?_ | refine zk_norm_block ?_ | refine zk_exit_block ?_ | refine zk_exit_block' rfl ?_))
  · exact zk_ret2 (.inr rfl) rfl rfl rfl ⟨⟨0, _, rfl, by omega⟩, rfl⟩
  · refine zl_call (by first | exact want_none | exact want_L rfl) rfl (by decide) rfl (number_calls p hp) ?_
    rintro _ v ⟨⟨k, rfl, hk⟩, hv⟩
    obtain rfl := hv.symm
    refine ⟨_, rfl, ?_⟩
    repeat' (first | (show ZL _ _ _ _ _ _ _; first | refine zl_nil ?_ | refine a_pure ?_ | refine a_skip ?_ | (show ZL _ _ _ (⟨_, (.load _ _), _, _, _, _⟩ :: _) _ _ _; first | refine a_loadB rfl ?_ | refine a_load1 rfl ?_ | refine a_loadAB rfl ?_) | (show ZL _ _ _ (⟨_, (.call _), _, _, _, _⟩ :: _) _ _ _; first | refine a_len rfl ?_ | refine a_lenL rfl ?_ | refine a_min rfl rfl fun _ _ _ _ => ?_ | refine a_max rfl rfl fun _ _ _ _ => ?_) | (show ZL _ _ _ (⟨_, (.binOp .add _ _ _ _), _, _, _, _⟩ :: _) _ _ _; first | refine a_catW rfl rfl fun _ _ => ?_ | refine a_add rfl rfl ?_ | refine a_add8 rfl rfl ?_ | refine a_addW rfl rfl fun _ _ => ?_) | (show ZL _ _ _ (⟨_, (.binOp .sub _ _ _ _), _, _, _, _⟩ :: _) _ _ _; first | refine a_sub rfl rfl ?_ | refine a_subW rfl rfl fun _ _ => ?_) | refine a_fa rfl ?_ | refine a_ia rfl rfl ?_ | refine a_cutW rfl rfl rfl fun _ _ => ?_ | refine a_idxW rfl rfl fun _ _ => ?_ | refine a_conv rfl ?_ | (show ZL _ _ _ (⟨_, (.binOp _ _ _ _ _), _, _, _, _⟩ :: _) _ _ _; first | refine a_cmpT rfl rfl rfl ?_ | refine a_cmpF rfl rfl rfl ?_ | refine a_shr rfl rfl fun _ _ => ?_ | refine a_and rfl rfl fun _ _ => ?_ | refine a_mul rfl rfl ?_) | (show ZL _ _ _ (⟨_, (.binOp _ _ _ _ _), _, _, _, _⟩ :: _) _ _ _; first | refine a_cmp rfl rfl rfl (fun _ => ?_) fun _ => ?_ | refine a_eq rfl rfl (fun _ => ?_) fun _ => ?_ | refine a_ne rfl rfl (fun _ => ?_) fun _ => ?_)) | (show ZC _ _ _ _ _ _; first | refine zc_seq ?_ | refine zc_region ?_ | refine zc_block ?_ | refine zc_skip ?_ | refine zc_exit ?_ | refine zc_ret ?_ | refine zc_true rfl ?_ | refine zc_false rfl ?_) | (show ZK _ _ _ _ _; first | refine zk_seq ?_ | refine zk_exit_then ?_ | refine zk_ret_then ?_ | refine zk_ret_block ?_ | refine zk_norm_block ?_ | refine zk_exit_block ?_ | refine zk_exit_block' rfl ?_))
    refine zl_call (by first | exact want_none | exact want_L rfl) rfl (by decide) rfl (digits_calls p hp) ?_
    rintro _ v2 ⟨⟨q, rfl⟩, hv2⟩
    obtain rfl := hv2.symm
    refine ⟨_, rfl, ?_⟩
    cases q
    · repeat' (first | (show ZL _ _ _ _ _ _ _; first | refine zl_nil ?_ | refine a_pure ?_ | refine a_skip ?_ | (show ZL _ _ _ (⟨_, (.load _ _), _, _, _, _⟩ :: _) _ _ _; first | refine a_loadB rfl ?_ | refine a_load1 rfl ?_ | refine a_loadAB rfl ?_) | (show ZL _ _ _ (⟨_, (.call _), _, _, _, _⟩ :: _) _ _ _; first | refine a_len rfl ?_ | refine a_lenL rfl ?_ | refine a_min rfl rfl fun _ _ _ _ => ?_ | refine a_max rfl rfl fun _ _ _ _ => ?_) | (show ZL _ _ _ (⟨_, (.binOp .add _ _ _ _), _, _, _, _⟩ :: _) _ _ _; first | refine a_catW rfl rfl fun _ _ => ?_ | refine a_add rfl rfl ?_ | refine a_add8 rfl rfl ?_ | refine a_addW rfl rfl fun _ _ => ?_) | (show ZL _ _ _ (⟨_, (.binOp .sub _ _ _ _), _, _, _, _⟩ :: _) _ _ _; first | refine a_sub rfl rfl ?_ | refine a_subW rfl rfl fun _ _ => ?_) | refine a_fa rfl ?_ | refine a_ia rfl rfl ?_ | refine a_cutW rfl rfl rfl fun _ _ => ?_ | refine a_idxW rfl rfl fun _ _ => ?_ | refine a_conv rfl ?_ | (show ZL _ _ _ (⟨_, (.binOp _ _ _ _ _), _, _, _, _⟩ :: _) _ _ _; first | refine a_cmpT rfl rfl rfl ?_ | refine a_cmpF rfl rfl rfl ?_ | refine a_shr rfl rfl fun _ _ => ?_ | refine a_and rfl rfl fun _ _ => ?_ | refine a_mul rfl rfl ?_) | (show ZL _ _ _ (⟨_, (.binOp _ _ _ _ _), _, _, _, _⟩ :: _) _ _ _; first | refine a_cmp rfl rfl rfl (fun _ => ?_) fun _ => ?_ | refine a_eq rfl rfl (fun _ => ?_) fun _ => ?_ | refine a_ne rfl rfl (fun _ => ?_) fun _ => ?_)) | (show ZC _ _ _ _ _ _; first | refine zc_seq ?_ | refine zc_region ?_ | refine zc_block ?_ | refine zc_skip ?_ | refine zc_exit ?_ | refine zc_ret ?_ | refine zc_true rfl ?_ | refine zc_false rfl ?_) | (show ZK _ _ _ _ _; first | refine zk_seq ?_ | refine zk_exit_then ?_ | refine zk_ret_then ?_ | refine zk_ret_block ?_ | refine zk_norm_block ?_ | refine zk_exit_block ?_ | refine zk_exit_block' rfl ?_))
      exact zk_ret2 (.inr rfl) rfl rfl rfl ⟨⟨0, _, rfl, by omega⟩, rfl⟩
    · repeat' (first | (show ZL _ _ _ _ _ _ _; first | refine zl_nil ?_ | refine a_pure ?_ | refine a_skip ?_ | (show ZL _ _ _ (⟨_, (.load _ _), _, _, _, _⟩ :: _) _ _ _; first | refine a_loadB rfl ?_ | refine a_load1 rfl ?_ | refine a_loadAB rfl ?_) | (show ZL _ _ _ (⟨_, (.call _), _, _, _, _⟩ :: _) _ _ _; first | refine a_len rfl ?_ | refine a_lenL rfl ?_ | refine a_min rfl rfl fun _ _ _ _ => ?_ | refine a_max rfl rfl fun _ _ _ _ => ?_) | (show ZL _ _ _ (⟨_, (.binOp .add _ _ _ _), _, _, _, _⟩ :: _) _ _ _; first | refine a_catW rfl rfl fun _ _ => ?_ | refine a_add rfl rfl ?_ | refine a_add8 rfl rfl ?_ | refine a_addW rfl rfl fun _ _ => ?_) | (show ZL _ _ _ (⟨_, (.binOp .sub _ _ _ _), _, _, _, _⟩ :: _) _ _ _; first | refine a_sub rfl rfl ?_ | refine a_subW rfl rfl fun _ _ => ?_) | refine a_fa rfl ?_ | refine a_ia rfl rfl ?_ | refine a_cutW rfl rfl rfl fun _ _ => ?_ | refine a_idxW rfl rfl fun _ _ => ?_ | refine a_conv rfl ?_ | (show ZL _ _ _ (⟨_, (.binOp _ _ _ _ _), _, _, _, _⟩ :: _) _ _ _; first | refine a_cmpT rfl rfl rfl ?_ | refine a_cmpF rfl rfl rfl ?_ | refine a_shr rfl rfl fun _ _ => ?_ | refine a_and rfl rfl fun _ _ => ?_ | refine a_mul rfl rfl ?_) | (show ZL _ _ _ (⟨_, (.binOp _ _ _ _ _), _, _, _, _⟩ :: _) _ _ _; first | refine a_cmp rfl rfl rfl (fun _ => ?_) fun _ => ?_ | refine a_eq rfl rfl (fun _ => ?_) fun _ => ?_ | refine a_ne rfl rfl (fun _ => ?_) fun _ => ?_)) | (show ZC _ _ _ _ _ _; first | refine zc_seq ?_ | refine zc_region ?_ | refine zc_block ?_ | refine zc_skip ?_ | refine zc_exit ?_ | refine zc_ret ?_ | refine zc_true rfl ?_ | refine zc_false rfl ?_) | (show ZK _ _ _ _ _; first | refine zk_seq ?_ | refine zk_exit_then ?_ | refine zk_ret_then ?_ | refine zk_ret_block ?_ | refine zk_norm_block ?_ | refine zk_exit_block ?_ | refine zk_exit_block' rfl ?_))
      all_goals first | exact zk_ret2 (.inr rfl) rfl rfl rfl ⟨⟨0, _, rfl, by omega⟩, rfl⟩ | exact zk_ret2 (.inr rfl) rfl rfl rfl ⟨⟨k, _, rfl, by omega⟩, rfl⟩
set_option maxHeartbeats 8000000 in
theorem dots_calls {w : World} (l : List UInt8) (hl : l.length ≤ big) : Calls Try.prog 85 [.string (bs l)].toArray w fun e w' => (∃ k : Nat, e = .returned (.int .i64 k) ∧ k ≤ 2) ∧ Chg w w' No := by
  refine calls_zc (n := 13) (f := 85) (fn := Try.f85) Try.func85 rfl rfl (by simp) ?_
  repeat' (first | (show ZL _ _ _ _ _ _ _; first | refine zl_nil ?_ | refine a_pure ?_ | refine a_skip ?_ | (show ZL _ _ _ (⟨_, (.load _ _), _, _, _, _⟩ :: _) _ _ _; first | refine a_loadB rfl ?_ | refine a_load1 rfl ?_ | refine a_loadAB rfl ?_) | (show ZL _ _ _ (⟨_, (.call _), _, _, _, _⟩ :: _) _ _ _; first | refine a_len rfl ?_ | refine a_lenL rfl ?_ | refine a_min rfl rfl fun _ _ _ _ => ?_ | refine a_max rfl rfl fun _ _ _ _ => ?_) | (show ZL _ _ _ (⟨_, (.binOp .add _ _ _ _), _, _, _, _⟩ :: _) _ _ _; first | refine a_catW rfl rfl fun _ _ => ?_ | refine a_add rfl rfl ?_ | refine a_add8 rfl rfl ?_ | refine a_addW rfl rfl fun _ _ => ?_) | (show ZL _ _ _ (⟨_, (.binOp .sub _ _ _ _), _, _, _, _⟩ :: _) _ _ _; first | refine a_sub rfl rfl ?_ | refine a_subW rfl rfl fun _ _ => ?_) | refine a_fa rfl ?_ | refine a_ia rfl rfl ?_ | refine a_cutW rfl rfl rfl fun _ _ => ?_ | refine a_idxW rfl rfl fun _ _ => ?_ | refine a_conv rfl ?_ | (show ZL _ _ _ (⟨_, (.binOp _ _ _ _ _), _, _, _, _⟩ :: _) _ _ _; first | refine a_cmpT rfl rfl rfl ?_ | refine a_cmpF rfl rfl rfl ?_ | refine a_shr rfl rfl fun _ _ => ?_ | refine a_and rfl rfl fun _ _ => ?_ | refine a_mul rfl rfl ?_) | (show ZL _ _ _ (⟨_, (.binOp _ _ _ _ _), _, _, _, _⟩ :: _) _ _ _; first | refine a_cmp rfl rfl rfl (fun _ => ?_) fun _ => ?_ | refine a_eq rfl rfl (fun _ => ?_) fun _ => ?_ | refine a_ne rfl rfl (fun _ => ?_) fun _ => ?_)) | (show ZC _ _ _ _ _ _; first | refine zc_seq ?_ | refine zc_region ?_ | refine zc_block ?_ | refine zc_skip ?_ | refine zc_exit ?_ | refine zc_ret ?_ | refine zc_true rfl ?_ | refine zc_false rfl ?_) | (show ZK _ _ _ _ _; first | refine zk_seq ?_ | refine zk_exit_then ?_ | refine zk_ret_then ?_ | refine zk_ret_block ?_ | refine zk_norm_block ?_ | refine zk_exit_block ?_ | refine zk_exit_block' rfl ?_))
  refine zl_call (by first | exact want_none | exact want_L rfl) rfl (by decide) rfl (fold_calls l hl) ?_
  rintro _ v ⟨⟨s, rfl, hs⟩, hC⟩
  refine ⟨_, rfl, ?_⟩
  repeat' (first | (show ZL _ _ _ _ _ _ _; first | refine zl_nil ?_ | refine a_pure ?_ | refine a_skip ?_ | (show ZL _ _ _ (⟨_, (.load _ _), _, _, _, _⟩ :: _) _ _ _; first | refine a_loadB rfl ?_ | refine a_load1 rfl ?_ | refine a_loadAB rfl ?_) | (show ZL _ _ _ (⟨_, (.call _), _, _, _, _⟩ :: _) _ _ _; first | refine a_len rfl ?_ | refine a_lenL rfl ?_ | refine a_min rfl rfl fun _ _ _ _ => ?_ | refine a_max rfl rfl fun _ _ _ _ => ?_) | (show ZL _ _ _ (⟨_, (.binOp .add _ _ _ _), _, _, _, _⟩ :: _) _ _ _; first | refine a_catW rfl rfl fun _ _ => ?_ | refine a_add rfl rfl ?_ | refine a_add8 rfl rfl ?_ | refine a_addW rfl rfl fun _ _ => ?_) | (show ZL _ _ _ (⟨_, (.binOp .sub _ _ _ _), _, _, _, _⟩ :: _) _ _ _; first | refine a_sub rfl rfl ?_ | refine a_subW rfl rfl fun _ _ => ?_) | refine a_fa rfl ?_ | refine a_ia rfl rfl ?_ | refine a_cutW rfl rfl rfl fun _ _ => ?_ | refine a_idxW rfl rfl fun _ _ => ?_ | refine a_conv rfl ?_ | (show ZL _ _ _ (⟨_, (.binOp _ _ _ _ _), _, _, _, _⟩ :: _) _ _ _; first | refine a_cmpT rfl rfl rfl ?_ | refine a_cmpF rfl rfl rfl ?_ | refine a_shr rfl rfl fun _ _ => ?_ | refine a_and rfl rfl fun _ _ => ?_ | refine a_mul rfl rfl ?_) | (show ZL _ _ _ (⟨_, (.binOp _ _ _ _ _), _, _, _, _⟩ :: _) _ _ _; first | refine a_cmp rfl rfl rfl (fun _ => ?_) fun _ => ?_ | refine a_eq rfl rfl (fun _ => ?_) fun _ => ?_ | refine a_ne rfl rfl (fun _ => ?_) fun _ => ?_)) | (show ZC _ _ _ _ _ _; first | refine zc_seq ?_ | refine zc_region ?_ | refine zc_block ?_ | refine zc_skip ?_ | refine zc_exit ?_ | refine zc_ret ?_ | refine zc_true rfl ?_ | refine zc_false rfl ?_) | (show ZK _ _ _ _ _; first | refine zk_seq ?_ | refine zk_exit_then ?_ | refine zk_ret_then ?_ | refine zk_ret_block ?_ | refine zk_norm_block ?_ | refine zk_exit_block ?_ | refine zk_exit_block' rfl ?_))
  all_goals first | exact zk_ret1 (.inr rfl) rfl rfl ⟨⟨0, rfl, by omega⟩, hC⟩ | exact zk_ret1 (.inr rfl) rfl rfl ⟨⟨1, rfl, by omega⟩, hC⟩ | exact zk_ret1 (.inr rfl) rfl rfl ⟨⟨2, rfl, by omega⟩, hC⟩
end Go.Proofs.Ytbcmiijollpgeaa.T
