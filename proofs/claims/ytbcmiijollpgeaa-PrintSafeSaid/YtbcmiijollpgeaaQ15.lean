import Derived.Test.YtbcmiijollpgeaaQ14
/- What an article may be: Right; how many tags are written. -/
namespace Go.Proofs.Ytbcmiijollpgeaa.T
open Go Go.Z Go.Proofs
set_option linter.unusedVariables false
set_option maxRecDepth 100000 in
set_option maxHeartbeats 16000000 in
theorem each_calls : ∀ (n : Nat) {w : World} {v : Value} (t : AT), t.size = n → n ≤ big → t.ok → TreeAt false w v t → Calls Try.prog 32 [v].toArray w fun e w' => (∃ q : Bool, e = .returned (.bool q)) ∧ Chg w w' No := by
  have hbig : big = 1000000000000 := rfl
  intro n
  induction n using Nat.strongRecOn with
  | _ n ih =>
  intro w v t hs hn hok h
  obtain ⟨A, c, rfl, hc⟩ := h.form
  have hls := t.len_size
  refine calls_zc (n := 62) (f := 32) (fn := Try.f32) Try.func32 rfl rfl (by simp) ?_
  refine zc_seq ?_
  refine zc_region ?_
  refine zl_pureL rfl ?_
  refine zl_nil ?_
  refine zk_seq ?_
  iterate 2 (refine zc_seq ?_)
  refine zc_region ?_
  refine zl_pureL rfl ?_
  refine zl_nil ?_
  refine zk_seq ?_
  refine zc_block ?_
  refine zc_loopW (ι := Nat) (fun i u => [(0, .slice A t.len c), (3, .int .i64 (i : Nat))]) (fun i u => i ≤ t.len ∧ Chg w u No) (fun i u => t.len - i) 0 ⟨Nat.zero_le _, Chg.refl _ _⟩ ⟨rfl, rfl, trivial⟩ ?_
  rintro i u ⟨hi, hC⟩
  by_cases hlt : i < t.len
  rotate_left
  · iterate 2 (refine zc_seq ?_)
    refine zc_region ?_
    iterate 2 (refine zl_pureL rfl ?_)
    refine z_len want_none (by decide) rfl ?_
    refine z_cmpB (r := false) want_none (by decide) rfl rfl rfl (iff_of_false Bool.false_ne_true (by omega)) ?_
    refine zl_nil ?_
    refine zk_seq ?_
    refine zc_false rfl ?_
    refine zc_exit ?_
    iterate 2 (refine zk_exit_then ?_)
    refine zk_exit_block ?_
    refine zk_seq ?_
    refine zc_seq ?_
    refine zc_region ?_
    refine zl_pureL rfl ?_
    refine zl_nil ?_
    refine zk_seq ?_
    refine zc_ret ?_
    exact zk_ret1 (.inr rfl) rfl rfl ⟨⟨true, rfl⟩, hC⟩
  obtain ⟨b', o, c', x, k, r, A', F, K, e1, hv, hN, hA, hF, hK⟩ := (h.no hC).at_ i hlt
  cases hv
  obtain ⟨hx, hk⟩ := t.ok_drop i x k r hok e1
  have htx := hx.tx
  have hsz := t.drop_size i
  rw [e1] at hsz
  simp only [AT.size] at hsz
  have hlk := k.len_size
  obtain ⟨nm, la, tx⟩ := x
  dsimp only at hA htx hN
  obtain ⟨A2, c2, rfl, _⟩ := hA.form
  obtain ⟨A3, m3, c3, rfl⟩ := hF
  obtain ⟨A4, c4, rfl, _⟩ := hK.form
  have hla : la.length ≤ 3 := hx.2.1
  have hlv : ∀ a ∈ la, a.2.length ≤ 28 := fun a ha => val_len _ (hx.2.2.1 a ha).2
  iterate 2 (refine zc_seq ?_)
  refine zc_region ?_
  iterate 2 (refine zl_pureL rfl ?_)
  refine z_len want_none (by decide) rfl ?_
  refine z_cmpB (r := true) want_none (by decide) rfl rfl rfl (iff_of_true rfl (by omega)) ?_
  refine zl_nil ?_
  refine zk_seq ?_
  refine zc_true rfl ?_
  refine zc_skip ?_
  refine zk_seq ?_
  refine zc_seq ?_
  refine zc_block ?_
  refine zc_seq ?_
  refine zc_region ?_
  iterate 2 (refine zl_pureL rfl ?_)
  refine z_ia want_none (by decide) rfl rfl (by omega) (by omega) ?_
  refine z_loadA (by rfl) (by first | exact want_none | exact want_L rfl) (by decide) rfl (hN.agg (by omega)) ?_
  refine z_alloc (by first | exact want_none | exact want_L rfl) (by decide) (fun u1 b1 hN1 => ?_)
  have hb1 : Blk u1 b1 38 [.string ⟨#[]⟩, nS, .string ⟨#[]⟩, nS, nS] := hN1.blk
  skip
  refine z_store (by first | exact want_none | exact want_L rfl) rfl rfl rfl (by assumption) (by first | exact Nat.le_refl _ | simp [Value.cells]) (by simp [Value.cells, Value.oneCell']) (fun u2 hU2 => ?_)
  have hb2 : Blk u2 b1 38 [.string (bs nm), .slice A2 la.length c2, .string (bs tx), .slice A3 m3 c3, .slice A4 k.len c4] := hU2.blk
  have hX2 : Chg u u2 No := hN1.chg.upd hU2 (hN1.ge (Chg.refl _ No))
  have hC2 : Chg w u2 No := hC.no hX2
  have hK2 := hK.no hX2
  have hA2 := hA.no hX2
  have hF2 : isSl (.slice A3 m3 c3) := ⟨_, _, _, rfl⟩
  repeat' (first | (show ZL _ _ _ _ _ _ _; first | (show ZL _ _ _ [] _ _ _; refine zl_nil ?_) | refine a_pure ?_ | refine a_skip ?_ | (show ZL _ _ _ (⟨_, (.load _ _), _, _, _, _⟩ :: _) _ _ _; first | refine a_loadB rfl ?_ | refine a_load1 rfl ?_ | refine a_loadAB rfl ?_) | (show ZL _ _ _ (⟨_, (.call _), _, _, _, _⟩ :: _) _ _ _; first | refine a_len rfl ?_ | refine a_lenL rfl ?_ | refine a_min rfl rfl fun _ _ _ _ => ?_ | refine a_max rfl rfl fun _ _ _ _ => ?_) | (show ZL _ _ _ (⟨_, (.binOp .add _ _ _ _), _, _, _, _⟩ :: _) _ _ _; first | refine a_catW rfl rfl fun _ _ => ?_ | refine a_add rfl rfl ?_ | refine a_add8 rfl rfl ?_ | refine a_addW rfl rfl fun _ _ => ?_) | (show ZL _ _ _ (⟨_, (.binOp .sub _ _ _ _), _, _, _, _⟩ :: _) _ _ _; first | refine a_sub rfl rfl ?_ | refine a_subW rfl rfl fun _ _ => ?_) | (show ZL _ _ _ (⟨_, (.fieldAddr _ _ _), _, _, _, _⟩ :: _) _ _ _; refine a_fa rfl ?_) | (show ZL _ _ _ (⟨_, (.indexAddr _ _ _), _, _, _, _⟩ :: _) _ _ _; refine a_ia rfl rfl ?_) | (show ZL _ _ _ (⟨_, (.slice _ _ _ _ _), _, _, _, _⟩ :: _) _ _ _; refine a_cutW rfl rfl rfl fun _ _ => ?_) | (show ZL _ _ _ (⟨_, (.index _ _ _), _, _, _, _⟩ :: _) _ _ _; refine a_idxW rfl rfl fun _ _ => ?_) | (show ZL _ _ _ (⟨_, (.convert _ _ _), _, _, _, _⟩ :: _) _ _ _; refine a_conv rfl ?_) | (show ZL _ _ _ (⟨_, (.binOp _ _ _ _ _), _, _, _, _⟩ :: _) _ _ _; first | refine a_cmpT rfl rfl rfl ?_ | refine a_cmpF rfl rfl rfl ?_ | refine a_shr rfl rfl fun _ _ => ?_ | refine a_and rfl rfl fun _ _ => ?_ | refine a_mul rfl rfl ?_) | (show ZL _ _ _ (⟨_, (.binOp _ _ _ _ _), _, _, _, _⟩ :: _) _ _ _; first | refine a_cmp rfl rfl rfl (fun _ => ?_) fun _ => ?_ | refine a_eq rfl rfl (fun _ => ?_) fun _ => ?_ | refine a_ne rfl rfl (fun _ => ?_) fun _ => ?_)) | (show ZC _ _ _ _ _ _; first | refine zc_seq ?_ | refine zc_region ?_ | refine zc_block ?_ | refine zc_skip ?_ | refine zc_exit ?_ | refine zc_ret ?_ | refine zc_true rfl ?_ | refine zc_false rfl ?_) | (show ZK _ _ _ _ _; first | refine zk_seq ?_ | refine zk_exit_then ?_ | refine zk_ret_then ?_ | refine zk_ret_block ?_ | refine zk_norm_block ?_ | refine zk_exit_block ?_ | refine zk_exit_block' rfl ?_))
  all_goals first
    | exact zk_ret1 (.inr rfl) rfl rfl ⟨⟨_, rfl⟩, hC2⟩
    | (refine zl_call (by first | exact want_none | exact want_L rfl) rfl (by decide) rfl (wholeV_calls tx (by omega)) ?_
       rintro _ u3 ⟨⟨q, rfl⟩, hu3⟩
       obtain rfl := hu3.symm
       refine ⟨_, rfl, ?_⟩
       cases q
       all_goals (repeat' (first | (show ZL _ _ _ _ _ _ _; first | (show ZL _ _ _ [] _ _ _; refine zl_nil ?_) | refine a_pure ?_ | refine a_skip ?_ | (show ZL _ _ _ (⟨_, (.load _ _), _, _, _, _⟩ :: _) _ _ _; first | refine a_loadB rfl ?_ | refine a_load1 rfl ?_ | refine a_loadAB rfl ?_) | (show ZL _ _ _ (⟨_, (.call _), _, _, _, _⟩ :: _) _ _ _; first | refine a_len rfl ?_ | refine a_lenL rfl ?_ | refine a_min rfl rfl fun _ _ _ _ => ?_ | refine a_max rfl rfl fun _ _ _ _ => ?_) | (show ZL _ _ _ (⟨_, (.binOp .add _ _ _ _), _, _, _, _⟩ :: _) _ _ _; first | refine a_catW rfl rfl fun _ _ => ?_ | refine a_add rfl rfl ?_ | refine a_add8 rfl rfl ?_ | refine a_addW rfl rfl fun _ _ => ?_) | (show ZL _ _ _ (⟨_, (.binOp .sub _ _ _ _), _, _, _, _⟩ :: _) _ _ _; first | refine a_sub rfl rfl ?_ | refine a_subW rfl rfl fun _ _ => ?_) | (show ZL _ _ _ (⟨_, (.fieldAddr _ _ _), _, _, _, _⟩ :: _) _ _ _; refine a_fa rfl ?_) | (show ZL _ _ _ (⟨_, (.indexAddr _ _ _), _, _, _, _⟩ :: _) _ _ _; refine a_ia rfl rfl ?_) | (show ZL _ _ _ (⟨_, (.slice _ _ _ _ _), _, _, _, _⟩ :: _) _ _ _; refine a_cutW rfl rfl rfl fun _ _ => ?_) | (show ZL _ _ _ (⟨_, (.index _ _ _), _, _, _, _⟩ :: _) _ _ _; refine a_idxW rfl rfl fun _ _ => ?_) | (show ZL _ _ _ (⟨_, (.convert _ _ _), _, _, _, _⟩ :: _) _ _ _; refine a_conv rfl ?_) | (show ZL _ _ _ (⟨_, (.binOp _ _ _ _ _), _, _, _, _⟩ :: _) _ _ _; first | refine a_cmpT rfl rfl rfl ?_ | refine a_cmpF rfl rfl rfl ?_ | refine a_shr rfl rfl fun _ _ => ?_ | refine a_and rfl rfl fun _ _ => ?_ | refine a_mul rfl rfl ?_) | (show ZL _ _ _ (⟨_, (.binOp _ _ _ _ _), _, _, _, _⟩ :: _) _ _ _; first | refine a_cmp rfl rfl rfl (fun _ => ?_) fun _ => ?_ | refine a_eq rfl rfl (fun _ => ?_) fun _ => ?_ | refine a_ne rfl rfl (fun _ => ?_) fun _ => ?_)) | (show ZC _ _ _ _ _ _; first | refine zc_seq ?_ | refine zc_region ?_ | refine zc_block ?_ | refine zc_skip ?_ | refine zc_exit ?_ | refine zc_ret ?_ | refine zc_true rfl ?_ | refine zc_false rfl ?_) | (show ZK _ _ _ _ _; first | refine zk_seq ?_ | refine zk_exit_then ?_ | refine zk_ret_then ?_ | refine zk_ret_block ?_ | refine zk_norm_block ?_ | refine zk_exit_block ?_ | refine zk_exit_block' rfl ?_)))
       all_goals first
         | exact zk_ret1 (.inr rfl) rfl rfl ⟨⟨_, rfl⟩, hC2⟩
         | exact zk_loopW (i + 1) ⟨by omega, hC2⟩ (by omega) ⟨rfl, get_int rfl (by omega), trivial⟩)
    | (refine zl_call (by first | exact want_none | exact want_L rfl) rfl (by decide) rfl (attrs17_calls hA2 hla hlv hF2 hK2 (by omega)) ?_
       rintro _ u3 ⟨⟨q, rfl⟩, hC3⟩
       have hb3 := hb2.no hC3
       have hK3 := hK2.no hC3
       refine ⟨_, rfl, ?_⟩
       cases q
       · repeat' (first | (show ZL _ _ _ _ _ _ _; first | (show ZL _ _ _ [] _ _ _; refine zl_nil ?_) | refine a_pure ?_ | refine a_skip ?_ | (show ZL _ _ _ (⟨_, (.load _ _), _, _, _, _⟩ :: _) _ _ _; first | refine a_loadB rfl ?_ | refine a_load1 rfl ?_ | refine a_loadAB rfl ?_) | (show ZL _ _ _ (⟨_, (.call _), _, _, _, _⟩ :: _) _ _ _; first | refine a_len rfl ?_ | refine a_lenL rfl ?_ | refine a_min rfl rfl fun _ _ _ _ => ?_ | refine a_max rfl rfl fun _ _ _ _ => ?_) | (show ZL _ _ _ (⟨_, (.binOp .add _ _ _ _), _, _, _, _⟩ :: _) _ _ _; first | refine a_catW rfl rfl fun _ _ => ?_ | refine a_add rfl rfl ?_ | refine a_add8 rfl rfl ?_ | refine a_addW rfl rfl fun _ _ => ?_) | (show ZL _ _ _ (⟨_, (.binOp .sub _ _ _ _), _, _, _, _⟩ :: _) _ _ _; first | refine a_sub rfl rfl ?_ | refine a_subW rfl rfl fun _ _ => ?_) | (show ZL _ _ _ (⟨_, (.fieldAddr _ _ _), _, _, _, _⟩ :: _) _ _ _; refine a_fa rfl ?_) | (show ZL _ _ _ (⟨_, (.indexAddr _ _ _), _, _, _, _⟩ :: _) _ _ _; refine a_ia rfl rfl ?_) | (show ZL _ _ _ (⟨_, (.slice _ _ _ _ _), _, _, _, _⟩ :: _) _ _ _; refine a_cutW rfl rfl rfl fun _ _ => ?_) | (show ZL _ _ _ (⟨_, (.index _ _ _), _, _, _, _⟩ :: _) _ _ _; refine a_idxW rfl rfl fun _ _ => ?_) | (show ZL _ _ _ (⟨_, (.convert _ _ _), _, _, _, _⟩ :: _) _ _ _; refine a_conv rfl ?_) | (show ZL _ _ _ (⟨_, (.binOp _ _ _ _ _), _, _, _, _⟩ :: _) _ _ _; first | refine a_cmpT rfl rfl rfl ?_ | refine a_cmpF rfl rfl rfl ?_ | refine a_shr rfl rfl fun _ _ => ?_ | refine a_and rfl rfl fun _ _ => ?_ | refine a_mul rfl rfl ?_) | (show ZL _ _ _ (⟨_, (.binOp _ _ _ _ _), _, _, _, _⟩ :: _) _ _ _; first | refine a_cmp rfl rfl rfl (fun _ => ?_) fun _ => ?_ | refine a_eq rfl rfl (fun _ => ?_) fun _ => ?_ | refine a_ne rfl rfl (fun _ => ?_) fun _ => ?_)) | (show ZC _ _ _ _ _ _; first | refine zc_seq ?_ | refine zc_region ?_ | refine zc_block ?_ | refine zc_skip ?_ | refine zc_exit ?_ | refine zc_ret ?_ | refine zc_true rfl ?_ | refine zc_false rfl ?_) | (show ZK _ _ _ _ _; first | refine zk_seq ?_ | refine zk_exit_then ?_ | refine zk_ret_then ?_ | refine zk_ret_block ?_ | refine zk_norm_block ?_ | refine zk_exit_block ?_ | refine zk_exit_block' rfl ?_))
         exact zk_ret1 (.inr rfl) rfl rfl ⟨⟨_, rfl⟩, hC2.no hC3⟩
       · repeat' (first | (show ZL _ _ _ _ _ _ _; first | (show ZL _ _ _ [] _ _ _; refine zl_nil ?_) | refine a_pure ?_ | refine a_skip ?_ | (show ZL _ _ _ (⟨_, (.load _ _), _, _, _, _⟩ :: _) _ _ _; first | refine a_loadB rfl ?_ | refine a_load1 rfl ?_ | refine a_loadAB rfl ?_) | (show ZL _ _ _ (⟨_, (.call _), _, _, _, _⟩ :: _) _ _ _; first | refine a_len rfl ?_ | refine a_lenL rfl ?_ | refine a_min rfl rfl fun _ _ _ _ => ?_ | refine a_max rfl rfl fun _ _ _ _ => ?_) | (show ZL _ _ _ (⟨_, (.binOp .add _ _ _ _), _, _, _, _⟩ :: _) _ _ _; first | refine a_catW rfl rfl fun _ _ => ?_ | refine a_add rfl rfl ?_ | refine a_add8 rfl rfl ?_ | refine a_addW rfl rfl fun _ _ => ?_) | (show ZL _ _ _ (⟨_, (.binOp .sub _ _ _ _), _, _, _, _⟩ :: _) _ _ _; first | refine a_sub rfl rfl ?_ | refine a_subW rfl rfl fun _ _ => ?_) | (show ZL _ _ _ (⟨_, (.fieldAddr _ _ _), _, _, _, _⟩ :: _) _ _ _; refine a_fa rfl ?_) | (show ZL _ _ _ (⟨_, (.indexAddr _ _ _), _, _, _, _⟩ :: _) _ _ _; refine a_ia rfl rfl ?_) | (show ZL _ _ _ (⟨_, (.slice _ _ _ _ _), _, _, _, _⟩ :: _) _ _ _; refine a_cutW rfl rfl rfl fun _ _ => ?_) | (show ZL _ _ _ (⟨_, (.index _ _ _), _, _, _, _⟩ :: _) _ _ _; refine a_idxW rfl rfl fun _ _ => ?_) | (show ZL _ _ _ (⟨_, (.convert _ _ _), _, _, _, _⟩ :: _) _ _ _; refine a_conv rfl ?_) | (show ZL _ _ _ (⟨_, (.binOp _ _ _ _ _), _, _, _, _⟩ :: _) _ _ _; first | refine a_cmpT rfl rfl rfl ?_ | refine a_cmpF rfl rfl rfl ?_ | refine a_shr rfl rfl fun _ _ => ?_ | refine a_and rfl rfl fun _ _ => ?_ | refine a_mul rfl rfl ?_) | (show ZL _ _ _ (⟨_, (.binOp _ _ _ _ _), _, _, _, _⟩ :: _) _ _ _; first | refine a_cmp rfl rfl rfl (fun _ => ?_) fun _ => ?_ | refine a_eq rfl rfl (fun _ => ?_) fun _ => ?_ | refine a_ne rfl rfl (fun _ => ?_) fun _ => ?_)) | (show ZC _ _ _ _ _ _; first | refine zc_seq ?_ | refine zc_region ?_ | refine zc_block ?_ | refine zc_skip ?_ | refine zc_exit ?_ | refine zc_ret ?_ | refine zc_true rfl ?_ | refine zc_false rfl ?_) | (show ZK _ _ _ _ _; first | refine zk_seq ?_ | refine zk_exit_then ?_ | refine zk_ret_then ?_ | refine zk_ret_block ?_ | refine zk_norm_block ?_ | refine zk_exit_block ?_ | refine zk_exit_block' rfl ?_))
         refine zl_call (by first | exact want_none | exact want_L rfl) rfl (by decide) rfl (kids_calls ⟨_, _, _, rfl⟩ hF2 hK3 (by omega) hk) ?_
         rintro _ u4 ⟨⟨q, rfl⟩, hC4⟩
         have hb4 := hb3.no hC4
         have hK4 := hK3.no hC4
         refine ⟨_, rfl, ?_⟩
         cases q
         · repeat' (first | (show ZL _ _ _ _ _ _ _; first | (show ZL _ _ _ [] _ _ _; refine zl_nil ?_) | refine a_pure ?_ | refine a_skip ?_ | (show ZL _ _ _ (⟨_, (.load _ _), _, _, _, _⟩ :: _) _ _ _; first | refine a_loadB rfl ?_ | refine a_load1 rfl ?_ | refine a_loadAB rfl ?_) | (show ZL _ _ _ (⟨_, (.call _), _, _, _, _⟩ :: _) _ _ _; first | refine a_len rfl ?_ | refine a_lenL rfl ?_ | refine a_min rfl rfl fun _ _ _ _ => ?_ | refine a_max rfl rfl fun _ _ _ _ => ?_) | (show ZL _ _ _ (⟨_, (.binOp .add _ _ _ _), _, _, _, _⟩ :: _) _ _ _; first | refine a_catW rfl rfl fun _ _ => ?_ | refine a_add rfl rfl ?_ | refine a_add8 rfl rfl ?_ | refine a_addW rfl rfl fun _ _ => ?_) | (show ZL _ _ _ (⟨_, (.binOp .sub _ _ _ _), _, _, _, _⟩ :: _) _ _ _; first | refine a_sub rfl rfl ?_ | refine a_subW rfl rfl fun _ _ => ?_) | (show ZL _ _ _ (⟨_, (.fieldAddr _ _ _), _, _, _, _⟩ :: _) _ _ _; refine a_fa rfl ?_) | (show ZL _ _ _ (⟨_, (.indexAddr _ _ _), _, _, _, _⟩ :: _) _ _ _; refine a_ia rfl rfl ?_) | (show ZL _ _ _ (⟨_, (.slice _ _ _ _ _), _, _, _, _⟩ :: _) _ _ _; refine a_cutW rfl rfl rfl fun _ _ => ?_) | (show ZL _ _ _ (⟨_, (.index _ _ _), _, _, _, _⟩ :: _) _ _ _; refine a_idxW rfl rfl fun _ _ => ?_) | (show ZL _ _ _ (⟨_, (.convert _ _ _), _, _, _, _⟩ :: _) _ _ _; refine a_conv rfl ?_) | (show ZL _ _ _ (⟨_, (.binOp _ _ _ _ _), _, _, _, _⟩ :: _) _ _ _; first | refine a_cmpT rfl rfl rfl ?_ | refine a_cmpF rfl rfl rfl ?_ | refine a_shr rfl rfl fun _ _ => ?_ | refine a_and rfl rfl fun _ _ => ?_ | refine a_mul rfl rfl ?_) | (show ZL _ _ _ (⟨_, (.binOp _ _ _ _ _), _, _, _, _⟩ :: _) _ _ _; first | refine a_cmp rfl rfl rfl (fun _ => ?_) fun _ => ?_ | refine a_eq rfl rfl (fun _ => ?_) fun _ => ?_ | refine a_ne rfl rfl (fun _ => ?_) fun _ => ?_)) | (show ZC _ _ _ _ _ _; first | refine zc_seq ?_ | refine zc_region ?_ | refine zc_block ?_ | refine zc_skip ?_ | refine zc_exit ?_ | refine zc_ret ?_ | refine zc_true rfl ?_ | refine zc_false rfl ?_) | (show ZK _ _ _ _ _; first | refine zk_seq ?_ | refine zk_exit_then ?_ | refine zk_ret_then ?_ | refine zk_ret_block ?_ | refine zk_norm_block ?_ | refine zk_exit_block ?_ | refine zk_exit_block' rfl ?_))
           exact zk_ret1 (.inr rfl) rfl rfl ⟨⟨_, rfl⟩, (hC2.no hC3).no hC4⟩
         · repeat' (first | (show ZL _ _ _ _ _ _ _; first | (show ZL _ _ _ [] _ _ _; refine zl_nil ?_) | refine a_pure ?_ | refine a_skip ?_ | (show ZL _ _ _ (⟨_, (.load _ _), _, _, _, _⟩ :: _) _ _ _; first | refine a_loadB rfl ?_ | refine a_load1 rfl ?_ | refine a_loadAB rfl ?_) | (show ZL _ _ _ (⟨_, (.call _), _, _, _, _⟩ :: _) _ _ _; first | refine a_len rfl ?_ | refine a_lenL rfl ?_ | refine a_min rfl rfl fun _ _ _ _ => ?_ | refine a_max rfl rfl fun _ _ _ _ => ?_) | (show ZL _ _ _ (⟨_, (.binOp .add _ _ _ _), _, _, _, _⟩ :: _) _ _ _; first | refine a_catW rfl rfl fun _ _ => ?_ | refine a_add rfl rfl ?_ | refine a_add8 rfl rfl ?_ | refine a_addW rfl rfl fun _ _ => ?_) | (show ZL _ _ _ (⟨_, (.binOp .sub _ _ _ _), _, _, _, _⟩ :: _) _ _ _; first | refine a_sub rfl rfl ?_ | refine a_subW rfl rfl fun _ _ => ?_) | (show ZL _ _ _ (⟨_, (.fieldAddr _ _ _), _, _, _, _⟩ :: _) _ _ _; refine a_fa rfl ?_) | (show ZL _ _ _ (⟨_, (.indexAddr _ _ _), _, _, _, _⟩ :: _) _ _ _; refine a_ia rfl rfl ?_) | (show ZL _ _ _ (⟨_, (.slice _ _ _ _ _), _, _, _, _⟩ :: _) _ _ _; refine a_cutW rfl rfl rfl fun _ _ => ?_) | (show ZL _ _ _ (⟨_, (.index _ _ _), _, _, _, _⟩ :: _) _ _ _; refine a_idxW rfl rfl fun _ _ => ?_) | (show ZL _ _ _ (⟨_, (.convert _ _ _), _, _, _, _⟩ :: _) _ _ _; refine a_conv rfl ?_) | (show ZL _ _ _ (⟨_, (.binOp _ _ _ _ _), _, _, _, _⟩ :: _) _ _ _; first | refine a_cmpT rfl rfl rfl ?_ | refine a_cmpF rfl rfl rfl ?_ | refine a_shr rfl rfl fun _ _ => ?_ | refine a_and rfl rfl fun _ _ => ?_ | refine a_mul rfl rfl ?_) | (show ZL _ _ _ (⟨_, (.binOp _ _ _ _ _), _, _, _, _⟩ :: _) _ _ _; first | refine a_cmp rfl rfl rfl (fun _ => ?_) fun _ => ?_ | refine a_eq rfl rfl (fun _ => ?_) fun _ => ?_ | refine a_ne rfl rfl (fun _ => ?_) fun _ => ?_)) | (show ZC _ _ _ _ _ _; first | refine zc_seq ?_ | refine zc_region ?_ | refine zc_block ?_ | refine zc_skip ?_ | refine zc_exit ?_ | refine zc_ret ?_ | refine zc_true rfl ?_ | refine zc_false rfl ?_) | (show ZK _ _ _ _ _; first | refine zk_seq ?_ | refine zk_exit_then ?_ | refine zk_ret_then ?_ | refine zk_ret_block ?_ | refine zk_norm_block ?_ | refine zk_exit_block ?_ | refine zk_exit_block' rfl ?_))
           refine zl_call (by first | exact want_none | exact want_L rfl) rfl (by decide) rfl (ih k.size (by omega) k rfl (by omega) hk hK4) ?_
           rintro _ u5 ⟨⟨q, rfl⟩, hC5⟩
           refine ⟨_, rfl, ?_⟩
           cases q
           · repeat' (first | (show ZL _ _ _ _ _ _ _; first | (show ZL _ _ _ [] _ _ _; refine zl_nil ?_) | refine a_pure ?_ | refine a_skip ?_ | (show ZL _ _ _ (⟨_, (.load _ _), _, _, _, _⟩ :: _) _ _ _; first | refine a_loadB rfl ?_ | refine a_load1 rfl ?_ | refine a_loadAB rfl ?_) | (show ZL _ _ _ (⟨_, (.call _), _, _, _, _⟩ :: _) _ _ _; first | refine a_len rfl ?_ | refine a_lenL rfl ?_ | refine a_min rfl rfl fun _ _ _ _ => ?_ | refine a_max rfl rfl fun _ _ _ _ => ?_) | (show ZL _ _ _ (⟨_, (.binOp .add _ _ _ _), _, _, _, _⟩ :: _) _ _ _; first | refine a_catW rfl rfl fun _ _ => ?_ | refine a_add rfl rfl ?_ | refine a_add8 rfl rfl ?_ | refine a_addW rfl rfl fun _ _ => ?_) | (show ZL _ _ _ (⟨_, (.binOp .sub _ _ _ _), _, _, _, _⟩ :: _) _ _ _; first | refine a_sub rfl rfl ?_ | refine a_subW rfl rfl fun _ _ => ?_) | (show ZL _ _ _ (⟨_, (.fieldAddr _ _ _), _, _, _, _⟩ :: _) _ _ _; refine a_fa rfl ?_) | (show ZL _ _ _ (⟨_, (.indexAddr _ _ _), _, _, _, _⟩ :: _) _ _ _; refine a_ia rfl rfl ?_) | (show ZL _ _ _ (⟨_, (.slice _ _ _ _ _), _, _, _, _⟩ :: _) _ _ _; refine a_cutW rfl rfl rfl fun _ _ => ?_) | (show ZL _ _ _ (⟨_, (.index _ _ _), _, _, _, _⟩ :: _) _ _ _; refine a_idxW rfl rfl fun _ _ => ?_) | (show ZL _ _ _ (⟨_, (.convert _ _ _), _, _, _, _⟩ :: _) _ _ _; refine a_conv rfl ?_) | (show ZL _ _ _ (⟨_, (.binOp _ _ _ _ _), _, _, _, _⟩ :: _) _ _ _; first | refine a_cmpT rfl rfl rfl ?_ | refine a_cmpF rfl rfl rfl ?_ | refine a_shr rfl rfl fun _ _ => ?_ | refine a_and rfl rfl fun _ _ => ?_ | refine a_mul rfl rfl ?_) | (show ZL _ _ _ (⟨_, (.binOp _ _ _ _ _), _, _, _, _⟩ :: _) _ _ _; first | refine a_cmp rfl rfl rfl (fun _ => ?_) fun _ => ?_ | refine a_eq rfl rfl (fun _ => ?_) fun _ => ?_ | refine a_ne rfl rfl (fun _ => ?_) fun _ => ?_)) | (show ZC _ _ _ _ _ _; first | refine zc_seq ?_ | refine zc_region ?_ | refine zc_block ?_ | refine zc_skip ?_ | refine zc_exit ?_ | refine zc_ret ?_ | refine zc_true rfl ?_ | refine zc_false rfl ?_) | (show ZK _ _ _ _ _; first | refine zk_seq ?_ | refine zk_exit_then ?_ | refine zk_ret_then ?_ | refine zk_ret_block ?_ | refine zk_norm_block ?_ | refine zk_exit_block ?_ | refine zk_exit_block' rfl ?_))
             exact zk_ret1 (.inr rfl) rfl rfl ⟨⟨_, rfl⟩, ((hC2.no hC3).no hC4).no hC5⟩
           · repeat' (first | (show ZL _ _ _ _ _ _ _; first | (show ZL _ _ _ [] _ _ _; refine zl_nil ?_) | refine a_pure ?_ | refine a_skip ?_ | (show ZL _ _ _ (⟨_, (.load _ _), _, _, _, _⟩ :: _) _ _ _; first | refine a_loadB rfl ?_ | refine a_load1 rfl ?_ | refine a_loadAB rfl ?_) | (show ZL _ _ _ (⟨_, (.call _), _, _, _, _⟩ :: _) _ _ _; first | refine a_len rfl ?_ | refine a_lenL rfl ?_ | refine a_min rfl rfl fun _ _ _ _ => ?_ | refine a_max rfl rfl fun _ _ _ _ => ?_) | (show ZL _ _ _ (⟨_, (.binOp .add _ _ _ _), _, _, _, _⟩ :: _) _ _ _; first | refine a_catW rfl rfl fun _ _ => ?_ | refine a_add rfl rfl ?_ | refine a_add8 rfl rfl ?_ | refine a_addW rfl rfl fun _ _ => ?_) | (show ZL _ _ _ (⟨_, (.binOp .sub _ _ _ _), _, _, _, _⟩ :: _) _ _ _; first | refine a_sub rfl rfl ?_ | refine a_subW rfl rfl fun _ _ => ?_) | (show ZL _ _ _ (⟨_, (.fieldAddr _ _ _), _, _, _, _⟩ :: _) _ _ _; refine a_fa rfl ?_) | (show ZL _ _ _ (⟨_, (.indexAddr _ _ _), _, _, _, _⟩ :: _) _ _ _; refine a_ia rfl rfl ?_) | (show ZL _ _ _ (⟨_, (.slice _ _ _ _ _), _, _, _, _⟩ :: _) _ _ _; refine a_cutW rfl rfl rfl fun _ _ => ?_) | (show ZL _ _ _ (⟨_, (.index _ _ _), _, _, _, _⟩ :: _) _ _ _; refine a_idxW rfl rfl fun _ _ => ?_) | (show ZL _ _ _ (⟨_, (.convert _ _ _), _, _, _, _⟩ :: _) _ _ _; refine a_conv rfl ?_) | (show ZL _ _ _ (⟨_, (.binOp _ _ _ _ _), _, _, _, _⟩ :: _) _ _ _; first | refine a_cmpT rfl rfl rfl ?_ | refine a_cmpF rfl rfl rfl ?_ | refine a_shr rfl rfl fun _ _ => ?_ | refine a_and rfl rfl fun _ _ => ?_ | refine a_mul rfl rfl ?_) | (show ZL _ _ _ (⟨_, (.binOp _ _ _ _ _), _, _, _, _⟩ :: _) _ _ _; first | refine a_cmp rfl rfl rfl (fun _ => ?_) fun _ => ?_ | refine a_eq rfl rfl (fun _ => ?_) fun _ => ?_ | refine a_ne rfl rfl (fun _ => ?_) fun _ => ?_)) | (show ZC _ _ _ _ _ _; first | refine zc_seq ?_ | refine zc_region ?_ | refine zc_block ?_ | refine zc_skip ?_ | refine zc_exit ?_ | refine zc_ret ?_ | refine zc_true rfl ?_ | refine zc_false rfl ?_) | (show ZK _ _ _ _ _; first | refine zk_seq ?_ | refine zk_exit_then ?_ | refine zk_ret_then ?_ | refine zk_ret_block ?_ | refine zk_norm_block ?_ | refine zk_exit_block ?_ | refine zk_exit_block' rfl ?_))
             exact zk_loopW (i + 1) ⟨by omega, ((hC2.no hC3).no hC4).no hC5⟩ (by omega) ⟨rfl, get_int rfl (by omega), trivial⟩)
end Go.Proofs.Ytbcmiijollpgeaa.T
