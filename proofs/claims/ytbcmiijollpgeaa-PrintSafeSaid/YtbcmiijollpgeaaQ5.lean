import Derived.Test.YtbcmiijollpgeaaQ4
/- Addresses of the document: a path. -/
namespace Go.Proofs.Ytbcmiijollpgeaa.T
open Go Go.Z Go.Proofs
set_option linter.unusedVariables false
theorem Row.form {B m : Nat} {w : World} {v : Value} {ss : List (List UInt8)} (h : Row B w v ss m) : ∃ A c, v = .slice A ss.length c ∧ ss.length ≤ c := h.own.rd.form
/-- a row of texts that is read, none longer than m -/
def RW (w : World) (v : Value) (n m : Nat) : Prop := ∃ b o c, v = .slice (some ⟨b, o, none⟩) n c ∧ n ≤ c ∧ ∀ j, j < n → ∃ t : List UInt8, w.cell? ⟨b, o + j, none⟩ = some (.string (bs t)) ∧ t.length ≤ m
theorem Row.rw {B m : Nat} {w : World} {v : Value} {ss : List (List UInt8)} (h : Row B w v ss m) (hp : 0 < ss.length) : RW w v ss.length m := by
  obtain ⟨b, o, c, h1, h2, h3⟩ := h.cells hp
  exact ⟨b, o, c, h1, h2, fun j hj => ⟨_, h3 j hj⟩⟩
theorem RW.no {w w' : World} {v : Value} {n m : Nat} (h : RW w v n m) (hc : Chg w w' No) : RW w' v n m := by
  obtain ⟨b, o, c, h1, h2, h3⟩ := h
  refine ⟨b, o, c, h1, h2, fun j hj => ?_⟩
  obtain ⟨t, h4, h5⟩ := h3 j hj
  exact ⟨t, cell_keep hc h4, h5⟩
section
variable {n : Nat} {e : Env} {w : World} {Q : Exit → Act → World → Prop} {ops : Array Oper} {rest : List Oper} {d : Tmp} {ty : TypeId} {pos : String} {aft : Array Edge} {g : Option (Nat × Bool)} {x : Operand} {v : Value}
theorem z_rowpop {B m : Nat} {ss : List (List UInt8)} {hi : Option Operand} (hR : Row B w v ss m) (hw : Want ops e g) (hdn : d < n) (hx : ev e x = some v) {j : Int} (hh : optI hi e ss.length = some j) (hj : j = ((ss.length - 1 : Nat) : Int)) (h : ∀ v', Row B w v' (ss.take (ss.length - 1)) m → ZL Try.prog n ops rest ((d, v') :: e) w Q) :
    ZL Try.prog n ops (⟨some d, .slice 46 x none hi none, ty, pos, aft, g⟩ :: rest) e w Q := by
  subst hj
  obtain ⟨A, c, rfl, hc⟩ := hR.form
  have hl : (ss.take (ss.length - 1)).length = ss.length - 1 := by rw [List.length_take]; omega
  have hO := hR.own.take (ss.length - 1) (by omega)
  rw [Nat.mul_one, show (cellsS ss).take (ss.length - 1) = cellsS (ss.take (ss.length - 1)) by simp [cellsS]] at hO
  refine zl_run hw rfl hdn (r_cutTo hR.own.flat hx hh (by omega)) (h _ ⟨by rw [hl]; exact hO, (fun k hk => hR.ge k (by cases A <;> exact hk)), fun y hy => hR.le y (List.mem_of_mem_take hy)⟩)
theorem z_rwfrom1 {k m : Nat} {lo : Option Operand} (hR : RW w v k m) (hk : 1 < k) (hw : Want ops e g) (hdn : d < n) (hx : ev e x = some v) (hl : optI lo e 0 = some 1) (h : ∀ v', RW w v' (k - 1) m → ZL Try.prog n ops rest ((d, v') :: e) w Q) :
    ZL Try.prog n ops (⟨some d, .slice 46 x lo none none, ty, pos, aft, g⟩ :: rest) e w Q := by
  obtain ⟨b, o, c, rfl, h2, h3⟩ := hR
  refine zl_run hw rfl hdn (r_cutFrom (k := 1) hx hl (by omega) h2) (h _ ⟨b, o + 1, c - 1, by rw [cutA_at (by omega)], by omega, fun j hj => ?_⟩)
  rw [Nat.add_assoc]
  exact h3 (1 + j) (by omega)
end
set_option maxHeartbeats 8000000 in
theorem path_calls {w : World} (l : List UInt8) (hl : l.length ≤ 1000) : Calls Try.prog 76 [.string (bs l)].toArray w fun e w' => (∃ s : List UInt8, e = .returned (.string (bs s)) ∧ s.length ≤ 1010000) ∧ Chg w w' No := by
  have hbig : big = 1000000000000 := rfl
  refine calls_zc (n := 91) (f := 76) (fn := Try.f76) Try.func76 rfl rfl (by simp) ?_
  repeat' (first | (show ZL _ _ _ _ _ _ _; first | (show ZL _ _ _ [] _ _ _; refine zl_nil ?_) | refine a_pure ?_ | refine a_skip ?_ | (show ZL _ _ _ (⟨_, (.load _ _), _, _, _, _⟩ :: _) _ _ _; first | refine a_loadB rfl ?_ | refine a_load1 rfl ?_ | refine a_loadAB rfl ?_) | (show ZL _ _ _ (⟨_, (.call _), _, _, _, _⟩ :: _) _ _ _; first | refine a_len rfl ?_ | refine a_lenL rfl ?_ | refine a_min rfl rfl fun _ _ _ _ => ?_ | refine a_max rfl rfl fun _ _ _ _ => ?_) | (show ZL _ _ _ (⟨_, (.binOp .add _ _ _ _), _, _, _, _⟩ :: _) _ _ _; first | refine a_catW rfl rfl fun _ _ => ?_ | refine a_add rfl rfl ?_ | refine a_add8 rfl rfl ?_ | refine a_addW rfl rfl fun _ _ => ?_) | (show ZL _ _ _ (⟨_, (.binOp .sub _ _ _ _), _, _, _, _⟩ :: _) _ _ _; first | refine a_sub rfl rfl ?_ | refine a_subW rfl rfl fun _ _ => ?_) | (show ZL _ _ _ (⟨_, (.fieldAddr _ _ _), _, _, _, _⟩ :: _) _ _ _; refine a_fa rfl ?_) | (show ZL _ _ _ (⟨_, (.indexAddr _ _ _), _, _, _, _⟩ :: _) _ _ _; refine a_ia rfl rfl ?_) | (show ZL _ _ _ (⟨_, (.slice _ _ _ _ _), _, _, _, _⟩ :: _) _ _ _; refine a_cutW rfl rfl rfl fun _ _ => ?_) | (show ZL _ _ _ (⟨_, (.index _ _ _), _, _, _, _⟩ :: _) _ _ _; refine a_idxW rfl rfl fun _ _ => ?_) | (show ZL _ _ _ (⟨_, (.convert _ _ _), _, _, _, _⟩ :: _) _ _ _; refine a_conv rfl ?_) | (show ZL _ _ _ (⟨_, (.binOp _ _ _ _ _), _, _, _, _⟩ :: _) _ _ _; first | refine a_cmpT rfl rfl rfl ?_ | refine a_cmpF rfl rfl rfl ?_ | refine a_shr rfl rfl fun _ _ => ?_ | refine a_and rfl rfl fun _ _ => ?_ | refine a_mul rfl rfl ?_) | (show ZL _ _ _ (⟨_, (.binOp _ _ _ _ _), _, _, _, _⟩ :: _) _ _ _; first | refine a_cmp rfl rfl rfl (fun _ => ?_) fun _ => ?_ | refine a_eq rfl rfl (fun _ => ?_) fun _ => ?_ | refine a_ne rfl rfl (fun _ => ?_) fun _ => ?_)) | (show ZC _ _ _ _ _ _; first | refine zc_seq ?_ | refine zc_region ?_ | refine zc_block ?_ | refine zc_skip ?_ | refine zc_exit ?_ | refine zc_ret ?_ | refine zc_true rfl ?_ | refine zc_false rfl ?_) | (show ZK _ _ _ _ _; first | refine zk_seq ?_ | refine zk_exit_then ?_ | refine zk_ret_then ?_ | refine zk_ret_block ?_ | refine zk_norm_block ?_ | refine zk_exit_block ?_ | refine zk_exit_block' rfl ?_))
  refine zc_midBX (ι := List UInt8) (fun s u => s.length ≤ 1000 ∧ u = w) (fun s => [(3, .string (bs s))]) ?_ ?_
  · refine zc_loopW (ι := Nat × List UInt8) (fun q u => [(0, .string (bs l)), (3, .string (bs q.2)), (4, .int .i64 (q.1 : Nat))]) (fun q u => q.1 ≤ l.length ∧ q.2.length ≤ q.1 ∧ u = w) (fun q u => l.length - q.1) (0, []) ⟨Nat.zero_le _, Nat.zero_le _, rfl⟩ ⟨rfl, rfl, rfl, trivial⟩ ?_
    rintro ⟨i, o⟩ u ⟨hi, ho, hu⟩
    obtain rfl := hu.symm
    dsimp only at hi ho ⊢
    by_cases hlt : i < l.length
    · repeat' (first | (show ZL _ _ _ _ _ _ _; first | (show ZL _ _ _ [] _ _ _; refine zl_nil ?_) | refine a_pure ?_ | refine a_skip ?_ | (show ZL _ _ _ (⟨_, (.load _ _), _, _, _, _⟩ :: _) _ _ _; first | refine a_loadB rfl ?_ | refine a_load1 rfl ?_ | refine a_loadAB rfl ?_) | (show ZL _ _ _ (⟨_, (.call _), _, _, _, _⟩ :: _) _ _ _; first | refine a_len rfl ?_ | refine a_lenL rfl ?_ | refine a_min rfl rfl fun _ _ _ _ => ?_ | refine a_max rfl rfl fun _ _ _ _ => ?_) | (show ZL _ _ _ (⟨_, (.binOp .add _ _ _ _), _, _, _, _⟩ :: _) _ _ _; first | refine a_catW rfl rfl fun _ _ => ?_ | refine a_add rfl rfl ?_ | refine a_add8 rfl rfl ?_ | refine a_addW rfl rfl fun _ _ => ?_) | (show ZL _ _ _ (⟨_, (.binOp .sub _ _ _ _), _, _, _, _⟩ :: _) _ _ _; first | refine a_sub rfl rfl ?_ | refine a_subW rfl rfl fun _ _ => ?_) | (show ZL _ _ _ (⟨_, (.fieldAddr _ _ _), _, _, _, _⟩ :: _) _ _ _; refine a_fa rfl ?_) | (show ZL _ _ _ (⟨_, (.indexAddr _ _ _), _, _, _, _⟩ :: _) _ _ _; refine a_ia rfl rfl ?_) | (show ZL _ _ _ (⟨_, (.slice _ _ _ _ _), _, _, _, _⟩ :: _) _ _ _; refine a_cutW rfl rfl rfl fun _ _ => ?_) | (show ZL _ _ _ (⟨_, (.index _ _ _), _, _, _, _⟩ :: _) _ _ _; refine a_idxW rfl rfl fun _ _ => ?_) | (show ZL _ _ _ (⟨_, (.convert _ _ _), _, _, _, _⟩ :: _) _ _ _; refine a_conv rfl ?_) | (show ZL _ _ _ (⟨_, (.binOp _ _ _ _ _), _, _, _, _⟩ :: _) _ _ _; first | refine a_cmpT rfl rfl rfl ?_ | refine a_cmpF rfl rfl rfl ?_ | refine a_shr rfl rfl fun _ _ => ?_ | refine a_and rfl rfl fun _ _ => ?_ | refine a_mul rfl rfl ?_) | (show ZL _ _ _ (⟨_, (.binOp _ _ _ _ _), _, _, _, _⟩ :: _) _ _ _; first | refine a_cmp rfl rfl rfl (fun _ => ?_) fun _ => ?_ | refine a_eq rfl rfl (fun _ => ?_) fun _ => ?_ | refine a_ne rfl rfl (fun _ => ?_) fun _ => ?_)) | (show ZC _ _ _ _ _ _; first | refine zc_seq ?_ | refine zc_region ?_ | refine zc_block ?_ | refine zc_skip ?_ | refine zc_exit ?_ | refine zc_ret ?_ | refine zc_true rfl ?_ | refine zc_false rfl ?_) | (show ZK _ _ _ _ _; first | refine zk_seq ?_ | refine zk_exit_then ?_ | refine zk_ret_then ?_ | refine zk_ret_block ?_ | refine zk_norm_block ?_ | refine zk_exit_block ?_ | refine zk_exit_block' rfl ?_))
      all_goals (rename_i s hs; exact zk_loopW (i + 1, s) ⟨by dsimp only; omega, by dsimp only; omega, rfl⟩ (by dsimp only; omega) ⟨rfl, rfl, get_int rfl (by dsimp only; omega), trivial⟩)
    · repeat' (first | (show ZL _ _ _ _ _ _ _; first | (show ZL _ _ _ [] _ _ _; refine zl_nil ?_) | refine a_pure ?_ | refine a_skip ?_ | (show ZL _ _ _ (⟨_, (.load _ _), _, _, _, _⟩ :: _) _ _ _; first | refine a_loadB rfl ?_ | refine a_load1 rfl ?_ | refine a_loadAB rfl ?_) | (show ZL _ _ _ (⟨_, (.call _), _, _, _, _⟩ :: _) _ _ _; first | refine a_len rfl ?_ | refine a_lenL rfl ?_ | refine a_min rfl rfl fun _ _ _ _ => ?_ | refine a_max rfl rfl fun _ _ _ _ => ?_) | (show ZL _ _ _ (⟨_, (.binOp .add _ _ _ _), _, _, _, _⟩ :: _) _ _ _; first | refine a_catW rfl rfl fun _ _ => ?_ | refine a_add rfl rfl ?_ | refine a_add8 rfl rfl ?_ | refine a_addW rfl rfl fun _ _ => ?_) | (show ZL _ _ _ (⟨_, (.binOp .sub _ _ _ _), _, _, _, _⟩ :: _) _ _ _; first | refine a_sub rfl rfl ?_ | refine a_subW rfl rfl fun _ _ => ?_) | (show ZL _ _ _ (⟨_, (.fieldAddr _ _ _), _, _, _, _⟩ :: _) _ _ _; refine a_fa rfl ?_) | (show ZL _ _ _ (⟨_, (.indexAddr _ _ _), _, _, _, _⟩ :: _) _ _ _; refine a_ia rfl rfl ?_) | (show ZL _ _ _ (⟨_, (.slice _ _ _ _ _), _, _, _, _⟩ :: _) _ _ _; refine a_cutW rfl rfl rfl fun _ _ => ?_) | (show ZL _ _ _ (⟨_, (.index _ _ _), _, _, _, _⟩ :: _) _ _ _; refine a_idxW rfl rfl fun _ _ => ?_) | (show ZL _ _ _ (⟨_, (.convert _ _ _), _, _, _, _⟩ :: _) _ _ _; refine a_conv rfl ?_) | (show ZL _ _ _ (⟨_, (.binOp _ _ _ _ _), _, _, _, _⟩ :: _) _ _ _; first | refine a_cmpT rfl rfl rfl ?_ | refine a_cmpF rfl rfl rfl ?_ | refine a_shr rfl rfl fun _ _ => ?_ | refine a_and rfl rfl fun _ _ => ?_ | refine a_mul rfl rfl ?_) | (show ZL _ _ _ (⟨_, (.binOp _ _ _ _ _), _, _, _, _⟩ :: _) _ _ _; first | refine a_cmp rfl rfl rfl (fun _ => ?_) fun _ => ?_ | refine a_eq rfl rfl (fun _ => ?_) fun _ => ?_ | refine a_ne rfl rfl (fun _ => ?_) fun _ => ?_)) | (show ZC _ _ _ _ _ _; first | refine zc_seq ?_ | refine zc_region ?_ | refine zc_block ?_ | refine zc_skip ?_ | refine zc_exit ?_ | refine zc_ret ?_ | refine zc_true rfl ?_ | refine zc_false rfl ?_) | (show ZK _ _ _ _ _; first | refine zk_seq ?_ | refine zk_exit_then ?_ | refine zk_ret_then ?_ | refine zk_ret_block ?_ | refine zk_norm_block ?_ | refine zk_exit_block ?_ | refine zk_exit_block' rfl ?_))
      exact zk_midX o ⟨by omega, rfl⟩ ⟨rfl, trivial⟩
  rintro o u ⟨ho, hu⟩
  obtain rfl := hu.symm
  repeat' (first | (show ZL _ _ _ _ _ _ _; first | (show ZL _ _ _ [] _ _ _; refine zl_nil ?_) | refine a_pure ?_ | refine a_skip ?_ | (show ZL _ _ _ (⟨_, (.load _ _), _, _, _, _⟩ :: _) _ _ _; first | refine a_loadB rfl ?_ | refine a_load1 rfl ?_ | refine a_loadAB rfl ?_) | (show ZL _ _ _ (⟨_, (.call _), _, _, _, _⟩ :: _) _ _ _; first | refine a_len rfl ?_ | refine a_lenL rfl ?_ | refine a_min rfl rfl fun _ _ _ _ => ?_ | refine a_max rfl rfl fun _ _ _ _ => ?_) | (show ZL _ _ _ (⟨_, (.binOp .add _ _ _ _), _, _, _, _⟩ :: _) _ _ _; first | refine a_catW rfl rfl fun _ _ => ?_ | refine a_add rfl rfl ?_ | refine a_add8 rfl rfl ?_ | refine a_addW rfl rfl fun _ _ => ?_) | (show ZL _ _ _ (⟨_, (.binOp .sub _ _ _ _), _, _, _, _⟩ :: _) _ _ _; first | refine a_sub rfl rfl ?_ | refine a_subW rfl rfl fun _ _ => ?_) | (show ZL _ _ _ (⟨_, (.fieldAddr _ _ _), _, _, _, _⟩ :: _) _ _ _; refine a_fa rfl ?_) | (show ZL _ _ _ (⟨_, (.indexAddr _ _ _), _, _, _, _⟩ :: _) _ _ _; refine a_ia rfl rfl ?_) | (show ZL _ _ _ (⟨_, (.slice _ _ _ _ _), _, _, _, _⟩ :: _) _ _ _; refine a_cutW rfl rfl rfl fun _ _ => ?_) | (show ZL _ _ _ (⟨_, (.index _ _ _), _, _, _, _⟩ :: _) _ _ _; refine a_idxW rfl rfl fun _ _ => ?_) | (show ZL _ _ _ (⟨_, (.convert _ _ _), _, _, _, _⟩ :: _) _ _ _; refine a_conv rfl ?_) | (show ZL _ _ _ (⟨_, (.binOp _ _ _ _ _), _, _, _, _⟩ :: _) _ _ _; first | refine a_cmpT rfl rfl rfl ?_ | refine a_cmpF rfl rfl rfl ?_ | refine a_shr rfl rfl fun _ _ => ?_ | refine a_and rfl rfl fun _ _ => ?_ | refine a_mul rfl rfl ?_) | (show ZL _ _ _ (⟨_, (.binOp _ _ _ _ _), _, _, _, _⟩ :: _) _ _ _; first | refine a_cmp rfl rfl rfl (fun _ => ?_) fun _ => ?_ | refine a_eq rfl rfl (fun _ => ?_) fun _ => ?_ | refine a_ne rfl rfl (fun _ => ?_) fun _ => ?_)) | (show ZC _ _ _ _ _ _; first | refine zc_seq ?_ | refine zc_region ?_ | refine zc_block ?_ | refine zc_skip ?_ | refine zc_exit ?_ | refine zc_ret ?_ | refine zc_true rfl ?_ | refine zc_false rfl ?_) | (show ZK _ _ _ _ _; first | refine zk_seq ?_ | refine zk_exit_then ?_ | refine zk_ret_then ?_ | refine zk_ret_block ?_ | refine zk_norm_block ?_ | refine zk_exit_block ?_ | refine zk_exit_block' rfl ?_))
  refine zl_call (by first | exact want_none | exact want_L rfl) rfl (by decide) rfl (split_calls o [47] (by omega)) ?_
  rintro _ w1 ⟨⟨v, ss, rfl, hR, hpos, hsl⟩, hC1⟩
  refine ⟨_, rfl, ?_⟩
  obtain ⟨A, c, rfl, hc⟩ := hR.form
  have hRW := hR.rw hpos
  refine zl_pureL rfl ?_
  refine zl_nil ?_
  refine zk_seq ?_
  refine zc_midX (ι := Value × Nat) (fun q u => RW u q.1 q.2 o.length ∧ 0 < q.2 ∧ q.2 ≤ ss.length ∧ u = w1) (fun q => [(5, q.1)]) ?_ ?_
  · by_cases h1 : 1 < ss.length
    · refine zc_seq ?_
      refine zc_region ?_
      refine zl_pureL rfl ?_
      refine z_len want_none (by decide) rfl ?_
      refine z_cmpB (r := true) want_none (by decide) rfl rfl rfl (iff_of_true rfl (by omega)) ?_
      refine zl_nil ?_
      refine zk_seq ?_
      refine zc_true rfl ?_
      refine zc_region ?_
      refine zl_pureL rfl ?_
      refine z_rwfrom1 hRW h1 (by first | exact want_none | exact want_L rfl) (by decide) rfl rfl (fun v2 hRW2 => ?_)
      refine zl_pureL rfl ?_
      refine zl_nil ?_
      exact zk_midX (v2, ss.length - 1) ⟨hRW2, by dsimp only; omega, by dsimp only; omega, rfl⟩ ⟨rfl, trivial⟩
    · refine zc_seq ?_
      refine zc_region ?_
      refine zl_pureL rfl ?_
      refine z_len want_none (by decide) rfl ?_
      refine z_cmpB (r := false) want_none (by decide) rfl rfl rfl (iff_of_false Bool.false_ne_true (by omega)) ?_
      refine zl_nil ?_
      refine zk_seq ?_
      refine zc_false rfl ?_
      refine zc_skip ?_
      exact zk_midX (_, ss.length) ⟨hRW, hpos, Nat.le_refl _, rfl⟩ ⟨rfl, trivial⟩
  rintro ⟨v, n⟩ u ⟨hRW, hn0, hns, hu⟩
  obtain rfl := hu.symm
  dsimp only at hRW hn0 hns ⊢
  obtain ⟨b5, o5, c5, rfl, hc5, hcell⟩ := hRW
  refine zc_seq ?_
  refine zc_region ?_
  refine zl_pureL rfl ?_
  refine zl_nil ?_
  refine zk_seq ?_
  iterate 2 (refine zc_seq ?_)
  refine zc_region ?_
  refine zl_pureL rfl ?_
  refine zl_nil ?_
  refine zk_seq ?_
  refine zc_block ?_
  refine zc_midBX (ι := Value × List (List UInt8)) (fun q u => Row w1.heap.size u q.1 q.2 1000 ∧ q.2.length ≤ 1001 ∧ Chg w1 u No) (fun q => [(6, q.1)]) ?_ ?_
  · refine zc_loopW (ι := Nat × Value × List (List UInt8)) (fun q u => [(5, .slice (some ⟨b5, o5, none⟩) n c5), (6, q.2.1), (7, .int .i64 (q.1 : Nat))])
      (fun q u => q.1 ≤ n ∧ q.2.2.length ≤ q.1 ∧ Row w1.heap.size u q.2.1 q.2.2 1000 ∧ Chg w1 u No) (fun q u => n - q.1) (0, .slice none 0 0, []) ⟨Nat.zero_le _, Nat.le_refl _, Row.nil, Chg.refl _ _⟩ ⟨rfl, rfl, rfl, trivial⟩ ?_
    rintro ⟨i, v6, ls⟩ u ⟨hi, hls, hR6, hC⟩
    dsimp only at hi hls hR6 ⊢
    obtain ⟨A6, c6, rfl, hc6⟩ := hR6.form
    by_cases hlt : i < n
    · obtain ⟨t, ht, htl⟩ := hcell i hlt
      have ht1 := cell_keep hC ht
      iterate 2 (refine zc_seq ?_)
      refine zc_region ?_
      iterate 2 (refine zl_pureL rfl ?_)
      refine z_len want_none (by decide) rfl ?_
      refine z_cmpB (r := true) want_none (by decide) rfl rfl rfl (iff_of_true rfl (by omega)) ?_
      refine zl_nil ?_
      refine zk_seq ?_
      refine zc_true rfl ?_
      refine zc_skip ?_
      refine zk_seq ?_
      refine zc_seq ?_
      refine zc_block ?_
      refine zc_seq ?_
      refine zc_region ?_
      iterate 2 (refine zl_pureL rfl ?_)
      refine z_ia want_none (by decide) rfl rfl (by omega) (by omega) ?_
      refine z_load1 (by first | exact want_none | exact want_L rfl) (by decide) rfl (cell_at ht1 (by omega)) ?_
      refine zl_call (by first | exact want_none | exact want_L rfl) rfl (by decide) rfl (dots_calls t (by omega)) ?_
      rintro _ u2 ⟨⟨k, rfl, hk⟩, hC2⟩
      refine ⟨_, rfl, ?_⟩
      have hR2 := hR6.no hC2
      have hC02 : Chg w1 u2 No := hC.no hC2
      have ht2 := cell_keep hC2 ht1
      refine zl_pureL rfl ?_
      refine zl_nil ?_
      refine zk_seq ?_
      refine zc_midX (ι := Value × List (List UInt8)) (fun q u' => Row w1.heap.size u' q.1 q.2 1000 ∧ q.2.length ≤ ls.length ∧ u' = u2) (fun q => [(5, .slice (some ⟨b5, o5, none⟩) n c5), (6, q.1), (7, .int .i64 (i : Nat)), (8, .int .i64 (k : Nat))]) ?_ ?_
      · by_cases h2 : k = 2 ∧ 0 < ls.length
        · obtain ⟨h21, h22⟩ := h2
          subst h21
          refine zc_seq ?_
          refine zc_region ?_
          refine zl_pureL rfl ?_
          refine z_cmpB (r := true) want_none (by decide) rfl rfl rfl (iff_of_true rfl (by omega)) ?_
          iterate 2 (refine zl_pureL rfl ?_)
          refine z_len (want_L rfl) (by decide) rfl ?_
          refine z_cmpB (r := true) (want_L rfl) (by decide) rfl rfl rfl (iff_of_true rfl (by omega)) ?_
          refine zl_pureL rfl ?_
          refine zl_nil ?_
          refine zk_seq ?_
          refine zc_true rfl ?_
          refine zc_region ?_
          iterate 2 (refine zl_pureL rfl ?_)
          refine z_len want_none (by decide) rfl ?_
          refine z_sub want_none (by decide) rfl rfl (by omega) (by omega) ?_
          refine z_rowpop hR2 (by first | exact want_none | exact want_L rfl) (by decide) rfl rfl (by omega) (fun v3 hR3 => ?_)
          refine zl_pureL rfl ?_
          refine zl_nil ?_
          exact zk_midX (v3, ls.take (ls.length - 1)) ⟨hR3, by dsimp only; rw [List.length_take]; omega, rfl⟩ ⟨rfl, rfl, rfl, rfl, trivial⟩
        · by_cases h3 : k = 2
          · subst h3
            refine zc_seq ?_
            refine zc_region ?_
            refine zl_pureL rfl ?_
            refine z_cmpB (r := true) want_none (by decide) rfl rfl rfl (iff_of_true rfl (by omega)) ?_
            iterate 2 (refine zl_pureL rfl ?_)
            refine z_len (want_L rfl) (by decide) rfl ?_
            refine z_cmpB (r := false) (want_L rfl) (by decide) rfl rfl rfl (iff_of_false Bool.false_ne_true (by omega)) ?_
            refine zl_pureL rfl ?_
            refine zl_nil ?_
            refine zk_seq ?_
            refine zc_false rfl ?_
            refine zc_skip ?_
            exact zk_midX (_, ls) ⟨hR2, Nat.le_refl _, rfl⟩ ⟨rfl, rfl, rfl, rfl, trivial⟩
          · refine zc_seq ?_
            refine zc_region ?_
            refine zl_pureL rfl ?_
            refine z_cmpB (r := false) want_none (by decide) rfl rfl rfl (iff_of_false Bool.false_ne_true (by omega)) ?_
            iterate 2 (refine zl_pureL rfl ?_)
            iterate 2 (refine zl_skip rfl ?_)
            refine zl_pureL rfl ?_
            refine zl_nil ?_
            refine zk_seq ?_
            refine zc_false rfl ?_
            refine zc_skip ?_
            exact zk_midX (_, ls) ⟨hR2, Nat.le_refl _, rfl⟩ ⟨rfl, rfl, rfl, rfl, trivial⟩
      rintro ⟨v7, ls7⟩ u3 ⟨hR7, hls7, hu3⟩
      obtain rfl := hu3.symm
      dsimp only at hR7 hls7 ⊢
      by_cases hk0 : k = 0
      · subst hk0
        refine zc_seq ?_
        refine zc_region ?_
        refine zl_pureL rfl ?_
        refine z_cmpB (r := true) want_none (by decide) rfl rfl rfl (iff_of_true rfl (by omega)) ?_
        refine zl_nil ?_
        refine zk_seq ?_
        refine zc_true rfl ?_
        refine zc_region ?_
        iterate 3 (refine zl_pureL rfl ?_)
        refine z_ia want_none (by decide) rfl rfl (by omega) (by omega) ?_
        refine z_load1 (by first | exact want_none | exact want_L rfl) (by decide) rfl (cell_at ht2 (by omega)) ?_
        refine z_rowpush hR7 hC02 (l := t) (by omega) (by omega) (by first | exact want_none | exact want_L rfl) (by decide) rfl (fun _ => (by first | exact want_none | exact want_L rfl)) (by decide) (fun _ => rfl) (fun v8 u8 b8 hR8 hC8 => ?_)
        refine zl_pureL rfl ?_
        refine zl_nil ?_
        refine zk_norm_block ?_
        refine zk_seq ?_
        refine zc_region ?_
        refine zl_pureL rfl ?_
        refine z_add want_none (by decide) rfl rfl (by omega) (by omega) ?_
        refine zl_pureL rfl ?_
        refine zl_nil ?_
        exact zk_loopW (i + 1, v8, ls7 ++ [t]) ⟨by dsimp only; omega, by dsimp only; rw [List.length_append, List.length_singleton]; omega, hR8, hC8⟩ (by dsimp only; omega) ⟨rfl, rfl, get_int rfl (by dsimp only; omega), trivial⟩
      · by_cases hlast : i = n - 1
        · refine zc_seq ?_
          refine zc_region ?_
          refine zl_pureL rfl ?_
          refine z_cmpB (r := false) want_none (by decide) rfl rfl rfl (iff_of_false Bool.false_ne_true (by omega)) ?_
          refine zl_nil ?_
          refine zk_seq ?_
          refine zc_false rfl ?_
          refine zc_seq ?_
          refine zc_region ?_
          iterate 2 (refine zl_pureL rfl ?_)
          refine z_len want_none (by decide) rfl ?_
          refine z_sub want_none (by decide) rfl rfl (by omega) (by omega) ?_
          refine z_cmpB (r := true) want_none (by decide) rfl rfl rfl (iff_of_true rfl (by omega)) ?_
          refine zl_nil ?_
          refine zk_seq ?_
          refine zc_true rfl ?_
          refine zc_region ?_
          refine zl_pureL rfl ?_
          refine z_rowpush hR7 hC02 (l := []) (by simp) (by omega) (by first | exact want_none | exact want_L rfl) (by decide) rfl (fun _ => (by first | exact want_none | exact want_L rfl)) (by decide) (fun _ => rfl) (fun v8 u8 b8 hR8 hC8 => ?_)
          refine zl_pureL rfl ?_
          refine zl_nil ?_
          refine zk_norm_block ?_
          refine zk_seq ?_
          refine zc_region ?_
          refine zl_pureL rfl ?_
          refine z_add want_none (by decide) rfl rfl (by omega) (by omega) ?_
          refine zl_pureL rfl ?_
          refine zl_nil ?_
          exact zk_loopW (i + 1, v8, ls7 ++ [[]]) ⟨by dsimp only; omega, by dsimp only; rw [List.length_append, List.length_singleton]; omega, hR8, hC8⟩ (by dsimp only; omega) ⟨rfl, rfl, get_int rfl (by dsimp only; omega), trivial⟩
        · refine zc_seq ?_
          refine zc_region ?_
          refine zl_pureL rfl ?_
          refine z_cmpB (r := false) want_none (by decide) rfl rfl rfl (iff_of_false Bool.false_ne_true (by omega)) ?_
          refine zl_nil ?_
          refine zk_seq ?_
          refine zc_false rfl ?_
          refine zc_seq ?_
          refine zc_region ?_
          iterate 2 (refine zl_pureL rfl ?_)
          refine z_len want_none (by decide) rfl ?_
          refine z_sub want_none (by decide) rfl rfl (by omega) (by omega) ?_
          refine z_cmpB (r := false) want_none (by decide) rfl rfl rfl (iff_of_false Bool.false_ne_true (by omega)) ?_
          refine zl_nil ?_
          refine zk_seq ?_
          refine zc_false rfl ?_
          refine zc_skip ?_
          refine zk_norm_block ?_
          refine zk_seq ?_
          refine zc_region ?_
          refine zl_pureL rfl ?_
          refine z_add want_none (by decide) rfl rfl (by omega) (by omega) ?_
          refine zl_pureL rfl ?_
          refine zl_nil ?_
          exact zk_loopW (i + 1, v7, ls7) ⟨by dsimp only; omega, by dsimp only; omega, hR7, hC02⟩ (by dsimp only; omega) ⟨rfl, rfl, get_int rfl (by dsimp only; omega), trivial⟩
    · iterate 2 (refine zc_seq ?_)
      refine zc_region ?_
      iterate 2 (refine zl_pureL rfl ?_)
      refine z_len want_none (by decide) rfl ?_
      refine z_cmpB (r := false) want_none (by decide) rfl rfl rfl (iff_of_false Bool.false_ne_true (by omega)) ?_
      refine zl_nil ?_
      refine zk_seq ?_
      refine zc_false rfl ?_
      refine zc_exit ?_
      iterate 2 (refine zk_exit_then ?_)
      refine zk_exit_block ?_
      exact zk_midX (_, ls) ⟨hR6, by dsimp only; omega, hC⟩ ⟨rfl, trivial⟩
  rintro ⟨v, ls⟩ u ⟨hR, hls, hC⟩
  dsimp only at hR hls ⊢
  refine zc_seq ?_
  refine zc_region ?_
  refine zl_pureL rfl ?_
  refine zl_nil ?_
  refine zk_seq ?_
  iterate 2 (refine zc_seq ?_)
  refine zc_region ?_
  refine zl_pureL rfl ?_
  refine zl_nil ?_
  refine zk_seq ?_
  refine zc_block ?_
  obtain ⟨A6, c6, rfl, hc6⟩ := hR.form
  refine zc_loopW (ι := Nat × List UInt8) (fun q u => [(6, .slice A6 ls.length c6), (9, .string (bs q.2)), (10, .int .i64 (q.1 : Nat))]) (fun q u' => q.1 ≤ ls.length ∧ q.2.length ≤ 1001 * q.1 ∧ u' = u) (fun q u => ls.length - q.1) (0, []) ⟨Nat.zero_le _, Nat.zero_le _, rfl⟩ ⟨rfl, rfl, rfl, trivial⟩ ?_
  rintro ⟨i, o2⟩ u' ⟨hi, ho2, hu'⟩
  obtain rfl := hu'.symm
  dsimp only at hi ho2 ⊢
  by_cases hlt : i < ls.length
  · obtain ⟨b6, o6, c7, hv6, _, hcell⟩ := hR.cells (by omega)
    simp only [Value.slice.injEq] at hv6
    obtain ⟨rfl, _, rfl⟩ := hv6
    obtain ⟨g1, g2⟩ := hcell i hlt
    repeat' (first | (show ZL _ _ _ _ _ _ _; first | (show ZL _ _ _ [] _ _ _; refine zl_nil ?_) | refine a_pure ?_ | refine a_skip ?_ | (show ZL _ _ _ (⟨_, (.load _ _), _, _, _, _⟩ :: _) _ _ _; first | refine a_loadB rfl ?_ | refine a_load1 rfl ?_ | refine a_loadAB rfl ?_) | (show ZL _ _ _ (⟨_, (.call _), _, _, _, _⟩ :: _) _ _ _; first | refine a_len rfl ?_ | refine a_lenL rfl ?_ | refine a_min rfl rfl fun _ _ _ _ => ?_ | refine a_max rfl rfl fun _ _ _ _ => ?_) | (show ZL _ _ _ (⟨_, (.binOp .add _ _ _ _), _, _, _, _⟩ :: _) _ _ _; first | refine a_catW rfl rfl fun _ _ => ?_ | refine a_add rfl rfl ?_ | refine a_add8 rfl rfl ?_ | refine a_addW rfl rfl fun _ _ => ?_) | (show ZL _ _ _ (⟨_, (.binOp .sub _ _ _ _), _, _, _, _⟩ :: _) _ _ _; first | refine a_sub rfl rfl ?_ | refine a_subW rfl rfl fun _ _ => ?_) | (show ZL _ _ _ (⟨_, (.fieldAddr _ _ _), _, _, _, _⟩ :: _) _ _ _; refine a_fa rfl ?_) | (show ZL _ _ _ (⟨_, (.indexAddr _ _ _), _, _, _, _⟩ :: _) _ _ _; refine a_ia rfl rfl ?_) | (show ZL _ _ _ (⟨_, (.slice _ _ _ _ _), _, _, _, _⟩ :: _) _ _ _; refine a_cutW rfl rfl rfl fun _ _ => ?_) | (show ZL _ _ _ (⟨_, (.index _ _ _), _, _, _, _⟩ :: _) _ _ _; refine a_idxW rfl rfl fun _ _ => ?_) | (show ZL _ _ _ (⟨_, (.convert _ _ _), _, _, _, _⟩ :: _) _ _ _; refine a_conv rfl ?_) | (show ZL _ _ _ (⟨_, (.binOp _ _ _ _ _), _, _, _, _⟩ :: _) _ _ _; first | refine a_cmpT rfl rfl rfl ?_ | refine a_cmpF rfl rfl rfl ?_ | refine a_shr rfl rfl fun _ _ => ?_ | refine a_and rfl rfl fun _ _ => ?_ | refine a_mul rfl rfl ?_) | (show ZL _ _ _ (⟨_, (.binOp _ _ _ _ _), _, _, _, _⟩ :: _) _ _ _; first | refine a_cmp rfl rfl rfl (fun _ => ?_) fun _ => ?_ | refine a_eq rfl rfl (fun _ => ?_) fun _ => ?_ | refine a_ne rfl rfl (fun _ => ?_) fun _ => ?_)) | (show ZC _ _ _ _ _ _; first | refine zc_seq ?_ | refine zc_region ?_ | refine zc_block ?_ | refine zc_skip ?_ | refine zc_exit ?_ | refine zc_ret ?_ | refine zc_true rfl ?_ | refine zc_false rfl ?_) | (show ZK _ _ _ _ _; first | refine zk_seq ?_ | refine zk_exit_then ?_ | refine zk_ret_then ?_ | refine zk_ret_block ?_ | refine zk_norm_block ?_ | refine zk_exit_block ?_ | refine zk_exit_block' rfl ?_))
    refine z_load1 (by first | exact want_none | exact want_L rfl) (by decide) rfl (cell_at g1 (by omega)) ?_
    repeat' (first | (show ZL _ _ _ _ _ _ _; first | (show ZL _ _ _ [] _ _ _; refine zl_nil ?_) | refine a_pure ?_ | refine a_skip ?_ | (show ZL _ _ _ (⟨_, (.load _ _), _, _, _, _⟩ :: _) _ _ _; first | refine a_loadB rfl ?_ | refine a_load1 rfl ?_ | refine a_loadAB rfl ?_) | (show ZL _ _ _ (⟨_, (.call _), _, _, _, _⟩ :: _) _ _ _; first | refine a_len rfl ?_ | refine a_lenL rfl ?_ | refine a_min rfl rfl fun _ _ _ _ => ?_ | refine a_max rfl rfl fun _ _ _ _ => ?_) | (show ZL _ _ _ (⟨_, (.binOp .add _ _ _ _), _, _, _, _⟩ :: _) _ _ _; first | refine a_catW rfl rfl fun _ _ => ?_ | refine a_add rfl rfl ?_ | refine a_add8 rfl rfl ?_ | refine a_addW rfl rfl fun _ _ => ?_) | (show ZL _ _ _ (⟨_, (.binOp .sub _ _ _ _), _, _, _, _⟩ :: _) _ _ _; first | refine a_sub rfl rfl ?_ | refine a_subW rfl rfl fun _ _ => ?_) | (show ZL _ _ _ (⟨_, (.fieldAddr _ _ _), _, _, _, _⟩ :: _) _ _ _; refine a_fa rfl ?_) | (show ZL _ _ _ (⟨_, (.indexAddr _ _ _), _, _, _, _⟩ :: _) _ _ _; refine a_ia rfl rfl ?_) | (show ZL _ _ _ (⟨_, (.slice _ _ _ _ _), _, _, _, _⟩ :: _) _ _ _; refine a_cutW rfl rfl rfl fun _ _ => ?_) | (show ZL _ _ _ (⟨_, (.index _ _ _), _, _, _, _⟩ :: _) _ _ _; refine a_idxW rfl rfl fun _ _ => ?_) | (show ZL _ _ _ (⟨_, (.convert _ _ _), _, _, _, _⟩ :: _) _ _ _; refine a_conv rfl ?_) | (show ZL _ _ _ (⟨_, (.binOp _ _ _ _ _), _, _, _, _⟩ :: _) _ _ _; first | refine a_cmpT rfl rfl rfl ?_ | refine a_cmpF rfl rfl rfl ?_ | refine a_shr rfl rfl fun _ _ => ?_ | refine a_and rfl rfl fun _ _ => ?_ | refine a_mul rfl rfl ?_) | (show ZL _ _ _ (⟨_, (.binOp _ _ _ _ _), _, _, _, _⟩ :: _) _ _ _; first | refine a_cmp rfl rfl rfl (fun _ => ?_) fun _ => ?_ | refine a_eq rfl rfl (fun _ => ?_) fun _ => ?_ | refine a_ne rfl rfl (fun _ => ?_) fun _ => ?_)) | (show ZC _ _ _ _ _ _; first | refine zc_seq ?_ | refine zc_region ?_ | refine zc_block ?_ | refine zc_skip ?_ | refine zc_exit ?_ | refine zc_ret ?_ | refine zc_true rfl ?_ | refine zc_false rfl ?_) | (show ZK _ _ _ _ _; first | refine zk_seq ?_ | refine zk_exit_then ?_ | refine zk_ret_then ?_ | refine zk_ret_block ?_ | refine zk_norm_block ?_ | refine zk_exit_block ?_ | refine zk_exit_block' rfl ?_))
    rename_i s1 hs1 s2 hs2
    exact zk_loopW (i + 1, s2) ⟨by dsimp only; omega, by dsimp only; omega, rfl⟩ (by dsimp only; omega) ⟨rfl, rfl, get_int rfl (by dsimp only; omega), trivial⟩
  · repeat' (first | (show ZL _ _ _ _ _ _ _; first | (show ZL _ _ _ [] _ _ _; refine zl_nil ?_) | refine a_pure ?_ | refine a_skip ?_ | (show ZL _ _ _ (⟨_, (.load _ _), _, _, _, _⟩ :: _) _ _ _; first | refine a_loadB rfl ?_ | refine a_load1 rfl ?_ | refine a_loadAB rfl ?_) | (show ZL _ _ _ (⟨_, (.call _), _, _, _, _⟩ :: _) _ _ _; first | refine a_len rfl ?_ | refine a_lenL rfl ?_ | refine a_min rfl rfl fun _ _ _ _ => ?_ | refine a_max rfl rfl fun _ _ _ _ => ?_) | (show ZL _ _ _ (⟨_, (.binOp .add _ _ _ _), _, _, _, _⟩ :: _) _ _ _; first | refine a_catW rfl rfl fun _ _ => ?_ | refine a_add rfl rfl ?_ | refine a_add8 rfl rfl ?_ | refine a_addW rfl rfl fun _ _ => ?_) | (show ZL _ _ _ (⟨_, (.binOp .sub _ _ _ _), _, _, _, _⟩ :: _) _ _ _; first | refine a_sub rfl rfl ?_ | refine a_subW rfl rfl fun _ _ => ?_) | (show ZL _ _ _ (⟨_, (.fieldAddr _ _ _), _, _, _, _⟩ :: _) _ _ _; refine a_fa rfl ?_) | (show ZL _ _ _ (⟨_, (.indexAddr _ _ _), _, _, _, _⟩ :: _) _ _ _; refine a_ia rfl rfl ?_) | (show ZL _ _ _ (⟨_, (.slice _ _ _ _ _), _, _, _, _⟩ :: _) _ _ _; refine a_cutW rfl rfl rfl fun _ _ => ?_) | (show ZL _ _ _ (⟨_, (.index _ _ _), _, _, _, _⟩ :: _) _ _ _; refine a_idxW rfl rfl fun _ _ => ?_) | (show ZL _ _ _ (⟨_, (.convert _ _ _), _, _, _, _⟩ :: _) _ _ _; refine a_conv rfl ?_) | (show ZL _ _ _ (⟨_, (.binOp _ _ _ _ _), _, _, _, _⟩ :: _) _ _ _; first | refine a_cmpT rfl rfl rfl ?_ | refine a_cmpF rfl rfl rfl ?_ | refine a_shr rfl rfl fun _ _ => ?_ | refine a_and rfl rfl fun _ _ => ?_ | refine a_mul rfl rfl ?_) | (show ZL _ _ _ (⟨_, (.binOp _ _ _ _ _), _, _, _, _⟩ :: _) _ _ _; first | refine a_cmp rfl rfl rfl (fun _ => ?_) fun _ => ?_ | refine a_eq rfl rfl (fun _ => ?_) fun _ => ?_ | refine a_ne rfl rfl (fun _ => ?_) fun _ => ?_)) | (show ZC _ _ _ _ _ _; first | refine zc_seq ?_ | refine zc_region ?_ | refine zc_block ?_ | refine zc_skip ?_ | refine zc_exit ?_ | refine zc_ret ?_ | refine zc_true rfl ?_ | refine zc_false rfl ?_) | (show ZK _ _ _ _ _; first | refine zk_seq ?_ | refine zk_exit_then ?_ | refine zk_ret_then ?_ | refine zk_ret_block ?_ | refine zk_norm_block ?_ | refine zk_exit_block ?_ | refine zk_exit_block' rfl ?_))
    exact zk_ret1 (.inr rfl) rfl rfl ⟨⟨_, rfl, by omega⟩, hC1.no hC⟩
end Go.Proofs.Ytbcmiijollpgeaa.T
