import Derived.Test.YtbcmiijollpgeaaQ7
/- Addresses of the document: what fits, what is good; sizes. -/
namespace Go.Proofs.Ytbcmiijollpgeaa.T
open Go Go.Z Go.Proofs
set_option linter.unusedVariables false
theorem wordsN_le : ∀ (l cur : List UInt8), (∀ x ∈ wordsN cur l, x.length ≤ cur.length + l.length) ∧ (wordsN cur l).length ≤ l.length + 1
  | [], cur => by
    simp only [wordsN]
    split
    · simp
    · simp
  | c :: r, cur => by
    have h1 := wordsN_le r []
    have h2 := wordsN_le r (cur ++ [c])
    simp only [List.length_nil, List.length_append, List.length_cons] at h1 h2
    simp only [wordsN, List.length_cons]
    split
    · split
      · exact ⟨fun x hx => by have := h1.1 x hx; omega, by omega⟩
      · refine ⟨fun x hx => ?_, by simp only [List.length_cons]; omega⟩
        rcases List.mem_cons.1 hx with rfl | hx
        · omega
        · have := h1.1 x hx; omega
    · exact ⟨fun x hx => by have := h2.1 x hx; omega, by omega⟩
set_option maxHeartbeats 8000000 in
theorem sized_calls {w : World} (l : List UInt8) (hl : l.length ≤ big) : Calls Try.prog 66 [.string (bs l)].toArray w fun e w' => (∃ q : Bool, e = .returned (.bool q)) ∧ w' = w := by
  have hbig : big = 1000000000000 := rfl
  refine calls_zc (n := 43) (f := 66) (fn := Try.f66) Try.func66 rfl rfl (by simp) ?_
  repeat' (first | (show ZL _ _ _ _ _ _ _; first | (show ZL _ _ _ [] _ _ _; refine zl_nil ?_) | refine a_pure ?_ | refine a_skip ?_ | (show ZL _ _ _ (⟨_, (.load _ _), _, _, _, _⟩ :: _) _ _ _; first | refine a_loadB rfl ?_ | refine a_load1 rfl ?_ | refine a_loadAB rfl ?_) | (show ZL _ _ _ (⟨_, (.call _), _, _, _, _⟩ :: _) _ _ _; first | refine a_len rfl ?_ | refine a_lenL rfl ?_ | refine a_min rfl rfl fun _ _ _ _ => ?_ | refine a_max rfl rfl fun _ _ _ _ => ?_) | (show ZL _ _ _ (⟨_, (.binOp .add _ _ _ _), _, _, _, _⟩ :: _) _ _ _; first | refine a_catW rfl rfl fun _ _ => ?_ | refine a_add rfl rfl ?_ | refine a_add8 rfl rfl ?_ | refine a_addW rfl rfl fun _ _ => ?_) | (show ZL _ _ _ (⟨_, (.binOp .sub _ _ _ _), _, _, _, _⟩ :: _) _ _ _; first | refine a_sub rfl rfl ?_ | refine a_subW rfl rfl fun _ _ => ?_) | (show ZL _ _ _ (⟨_, (.fieldAddr _ _ _), _, _, _, _⟩ :: _) _ _ _; refine a_fa rfl ?_) | (show ZL _ _ _ (⟨_, (.indexAddr _ _ _), _, _, _, _⟩ :: _) _ _ _; refine a_ia rfl rfl ?_) | (show ZL _ _ _ (⟨_, (.slice _ _ _ _ _), _, _, _, _⟩ :: _) _ _ _; refine a_cutW rfl rfl rfl fun _ _ => ?_) | (show ZL _ _ _ (⟨_, (.index _ _ _), _, _, _, _⟩ :: _) _ _ _; refine a_idxW rfl rfl fun _ _ => ?_) | (show ZL _ _ _ (⟨_, (.convert _ _ _), _, _, _, _⟩ :: _) _ _ _; refine a_conv rfl ?_) | (show ZL _ _ _ (⟨_, (.binOp _ _ _ _ _), _, _, _, _⟩ :: _) _ _ _; first | refine a_cmpT rfl rfl rfl ?_ | refine a_cmpF rfl rfl rfl ?_ | refine a_shr rfl rfl fun _ _ => ?_ | refine a_and rfl rfl fun _ _ => ?_ | refine a_mul rfl rfl ?_) | (show ZL _ _ _ (⟨_, (.binOp _ _ _ _ _), _, _, _, _⟩ :: _) _ _ _; first | refine a_cmp rfl rfl rfl (fun _ => ?_) fun _ => ?_ | refine a_eq rfl rfl (fun _ => ?_) fun _ => ?_ | refine a_ne rfl rfl (fun _ => ?_) fun _ => ?_)) | (show ZC _ _ _ _ _ _; first | refine zc_seq ?_ | refine zc_region ?_ | refine zc_block ?_ | refine zc_skip ?_ | refine zc_exit ?_ | refine zc_ret ?_ | refine zc_true rfl ?_ | refine zc_false rfl ?_) | (show ZK _ _ _ _ _; first | refine zk_seq ?_ | refine zk_exit_then ?_ | refine zk_ret_then ?_ | refine zk_ret_block ?_ | refine zk_norm_block ?_ | refine zk_exit_block ?_ | refine zk_exit_block' rfl ?_))
  · exact zk_ret1 (.inr rfl) rfl rfl ⟨⟨_, rfl⟩, rfl⟩
  rename_i hne
  have hpos : 0 < l.length := List.length_pos_iff.2 hne
  repeat' (first | (show ZL _ _ _ _ _ _ _; first | (show ZL _ _ _ [] _ _ _; refine zl_nil ?_) | refine a_pure ?_ | refine a_skip ?_ | (show ZL _ _ _ (⟨_, (.load _ _), _, _, _, _⟩ :: _) _ _ _; first | refine a_loadB rfl ?_ | refine a_load1 rfl ?_ | refine a_loadAB rfl ?_) | (show ZL _ _ _ (⟨_, (.call _), _, _, _, _⟩ :: _) _ _ _; first | refine a_len rfl ?_ | refine a_lenL rfl ?_ | refine a_min rfl rfl fun _ _ _ _ => ?_ | refine a_max rfl rfl fun _ _ _ _ => ?_) | (show ZL _ _ _ (⟨_, (.binOp .add _ _ _ _), _, _, _, _⟩ :: _) _ _ _; first | refine a_catW rfl rfl fun _ _ => ?_ | refine a_add rfl rfl ?_ | refine a_add8 rfl rfl ?_ | refine a_addW rfl rfl fun _ _ => ?_) | (show ZL _ _ _ (⟨_, (.binOp .sub _ _ _ _), _, _, _, _⟩ :: _) _ _ _; first | refine a_sub rfl rfl ?_ | refine a_subW rfl rfl fun _ _ => ?_) | (show ZL _ _ _ (⟨_, (.fieldAddr _ _ _), _, _, _, _⟩ :: _) _ _ _; refine a_fa rfl ?_) | (show ZL _ _ _ (⟨_, (.indexAddr _ _ _), _, _, _, _⟩ :: _) _ _ _; refine a_ia rfl rfl ?_) | (show ZL _ _ _ (⟨_, (.slice _ _ _ _ _), _, _, _, _⟩ :: _) _ _ _; refine a_cutW rfl rfl rfl fun _ _ => ?_) | (show ZL _ _ _ (⟨_, (.index _ _ _), _, _, _, _⟩ :: _) _ _ _; refine a_idxW rfl rfl fun _ _ => ?_) | (show ZL _ _ _ (⟨_, (.convert _ _ _), _, _, _, _⟩ :: _) _ _ _; refine a_conv rfl ?_) | (show ZL _ _ _ (⟨_, (.binOp _ _ _ _ _), _, _, _, _⟩ :: _) _ _ _; first | refine a_cmpT rfl rfl rfl ?_ | refine a_cmpF rfl rfl rfl ?_ | refine a_shr rfl rfl fun _ _ => ?_ | refine a_and rfl rfl fun _ _ => ?_ | refine a_mul rfl rfl ?_) | (show ZL _ _ _ (⟨_, (.binOp _ _ _ _ _), _, _, _, _⟩ :: _) _ _ _; first | refine a_cmp rfl rfl rfl (fun _ => ?_) fun _ => ?_ | refine a_eq rfl rfl (fun _ => ?_) fun _ => ?_ | refine a_ne rfl rfl (fun _ => ?_) fun _ => ?_)) | (show ZC _ _ _ _ _ _; first | refine zc_seq ?_ | refine zc_region ?_ | refine zc_block ?_ | refine zc_skip ?_ | refine zc_exit ?_ | refine zc_ret ?_ | refine zc_true rfl ?_ | refine zc_false rfl ?_) | (show ZK _ _ _ _ _; first | refine zk_seq ?_ | refine zk_exit_then ?_ | refine zk_ret_then ?_ | refine zk_ret_block ?_ | refine zk_norm_block ?_ | refine zk_exit_block ?_ | refine zk_exit_block' rfl ?_))
  refine zc_loopW (ι := Nat) (fun i u => [(0, .string (bs l)), (3, .int .i64 ((l.length : Int) - 1)), (4, .int .i64 (i : Nat))]) (fun i u => i ≤ l.length - 1 ∧ u = w) (fun i u => l.length - i) 0 ⟨Nat.zero_le _, rfl⟩ ⟨rfl, rfl, rfl, trivial⟩ ?_
  rintro i u ⟨hi, hu⟩
  obtain rfl := hu.symm
  by_cases hlt : i < l.length - 1
  · repeat' (first | (show ZL _ _ _ _ _ _ _; first | (show ZL _ _ _ [] _ _ _; refine zl_nil ?_) | refine a_pure ?_ | refine a_skip ?_ | (show ZL _ _ _ (⟨_, (.load _ _), _, _, _, _⟩ :: _) _ _ _; first | refine a_loadB rfl ?_ | refine a_load1 rfl ?_ | refine a_loadAB rfl ?_) | (show ZL _ _ _ (⟨_, (.call _), _, _, _, _⟩ :: _) _ _ _; first | refine a_len rfl ?_ | refine a_lenL rfl ?_ | refine a_min rfl rfl fun _ _ _ _ => ?_ | refine a_max rfl rfl fun _ _ _ _ => ?_) | (show ZL _ _ _ (⟨_, (.binOp .add _ _ _ _), _, _, _, _⟩ :: _) _ _ _; first | refine a_catW rfl rfl fun _ _ => ?_ | refine a_add rfl rfl ?_ | refine a_add8 rfl rfl ?_ | refine a_addW rfl rfl fun _ _ => ?_) | (show ZL _ _ _ (⟨_, (.binOp .sub _ _ _ _), _, _, _, _⟩ :: _) _ _ _; first | refine a_sub rfl rfl ?_ | refine a_subW rfl rfl fun _ _ => ?_) | (show ZL _ _ _ (⟨_, (.fieldAddr _ _ _), _, _, _, _⟩ :: _) _ _ _; refine a_fa rfl ?_) | (show ZL _ _ _ (⟨_, (.indexAddr _ _ _), _, _, _, _⟩ :: _) _ _ _; refine a_ia rfl rfl ?_) | (show ZL _ _ _ (⟨_, (.slice _ _ _ _ _), _, _, _, _⟩ :: _) _ _ _; refine a_cutW rfl rfl rfl fun _ _ => ?_) | (show ZL _ _ _ (⟨_, (.index _ _ _), _, _, _, _⟩ :: _) _ _ _; refine a_idxW rfl rfl fun _ _ => ?_) | (show ZL _ _ _ (⟨_, (.convert _ _ _), _, _, _, _⟩ :: _) _ _ _; refine a_conv rfl ?_) | (show ZL _ _ _ (⟨_, (.binOp _ _ _ _ _), _, _, _, _⟩ :: _) _ _ _; first | refine a_cmpT rfl rfl rfl ?_ | refine a_cmpF rfl rfl rfl ?_ | refine a_shr rfl rfl fun _ _ => ?_ | refine a_and rfl rfl fun _ _ => ?_ | refine a_mul rfl rfl ?_) | (show ZL _ _ _ (⟨_, (.binOp _ _ _ _ _), _, _, _, _⟩ :: _) _ _ _; first | refine a_cmp rfl rfl rfl (fun _ => ?_) fun _ => ?_ | refine a_eq rfl rfl (fun _ => ?_) fun _ => ?_ | refine a_ne rfl rfl (fun _ => ?_) fun _ => ?_)) | (show ZC _ _ _ _ _ _; first | refine zc_seq ?_ | refine zc_region ?_ | refine zc_block ?_ | refine zc_skip ?_ | refine zc_exit ?_ | refine zc_ret ?_ | refine zc_true rfl ?_ | refine zc_false rfl ?_) | (show ZK _ _ _ _ _; first | refine zk_seq ?_ | refine zk_exit_then ?_ | refine zk_ret_then ?_ | refine zk_ret_block ?_ | refine zk_norm_block ?_ | refine zk_exit_block ?_ | refine zk_exit_block' rfl ?_))
    all_goals first | exact zk_ret1 (.inr rfl) rfl rfl ⟨⟨_, rfl⟩, rfl⟩ | exact zk_loopW (i + 1) ⟨by omega, rfl⟩ (by omega) ⟨rfl, rfl, get_int rfl (by omega), trivial⟩
  · repeat' (first | (show ZL _ _ _ _ _ _ _; first | (show ZL _ _ _ [] _ _ _; refine zl_nil ?_) | refine a_pure ?_ | refine a_skip ?_ | (show ZL _ _ _ (⟨_, (.load _ _), _, _, _, _⟩ :: _) _ _ _; first | refine a_loadB rfl ?_ | refine a_load1 rfl ?_ | refine a_loadAB rfl ?_) | (show ZL _ _ _ (⟨_, (.call _), _, _, _, _⟩ :: _) _ _ _; first | refine a_len rfl ?_ | refine a_lenL rfl ?_ | refine a_min rfl rfl fun _ _ _ _ => ?_ | refine a_max rfl rfl fun _ _ _ _ => ?_) | (show ZL _ _ _ (⟨_, (.binOp .add _ _ _ _), _, _, _, _⟩ :: _) _ _ _; first | refine a_catW rfl rfl fun _ _ => ?_ | refine a_add rfl rfl ?_ | refine a_add8 rfl rfl ?_ | refine a_addW rfl rfl fun _ _ => ?_) | (show ZL _ _ _ (⟨_, (.binOp .sub _ _ _ _), _, _, _, _⟩ :: _) _ _ _; first | refine a_sub rfl rfl ?_ | refine a_subW rfl rfl fun _ _ => ?_) | (show ZL _ _ _ (⟨_, (.fieldAddr _ _ _), _, _, _, _⟩ :: _) _ _ _; refine a_fa rfl ?_) | (show ZL _ _ _ (⟨_, (.indexAddr _ _ _), _, _, _, _⟩ :: _) _ _ _; refine a_ia rfl rfl ?_) | (show ZL _ _ _ (⟨_, (.slice _ _ _ _ _), _, _, _, _⟩ :: _) _ _ _; refine a_cutW rfl rfl rfl fun _ _ => ?_) | (show ZL _ _ _ (⟨_, (.index _ _ _), _, _, _, _⟩ :: _) _ _ _; refine a_idxW rfl rfl fun _ _ => ?_) | (show ZL _ _ _ (⟨_, (.convert _ _ _), _, _, _, _⟩ :: _) _ _ _; refine a_conv rfl ?_) | (show ZL _ _ _ (⟨_, (.binOp _ _ _ _ _), _, _, _, _⟩ :: _) _ _ _; first | refine a_cmpT rfl rfl rfl ?_ | refine a_cmpF rfl rfl rfl ?_ | refine a_shr rfl rfl fun _ _ => ?_ | refine a_and rfl rfl fun _ _ => ?_ | refine a_mul rfl rfl ?_) | (show ZL _ _ _ (⟨_, (.binOp _ _ _ _ _), _, _, _, _⟩ :: _) _ _ _; first | refine a_cmp rfl rfl rfl (fun _ => ?_) fun _ => ?_ | refine a_eq rfl rfl (fun _ => ?_) fun _ => ?_ | refine a_ne rfl rfl (fun _ => ?_) fun _ => ?_)) | (show ZC _ _ _ _ _ _; first | refine zc_seq ?_ | refine zc_region ?_ | refine zc_block ?_ | refine zc_skip ?_ | refine zc_exit ?_ | refine zc_ret ?_ | refine zc_true rfl ?_ | refine zc_false rfl ?_) | (show ZK _ _ _ _ _; first | refine zk_seq ?_ | refine zk_exit_then ?_ | refine zk_ret_then ?_ | refine zk_ret_block ?_ | refine zk_norm_block ?_ | refine zk_exit_block ?_ | refine zk_exit_block' rfl ?_))
    all_goals exact zk_ret1 (.inr rfl) rfl rfl ⟨⟨_, rfl⟩, rfl⟩
def sImgs : List UInt8 := [105, 109, 97, 103, 101, 47, 103, 105, 102, 32, 105, 109, 97, 103, 101, 47, 106, 112, 101, 103, 32, 105, 109, 97, 103, 101, 47, 112, 110, 103, 32, 105, 109, 97, 103, 101, 47, 119, 101, 98, 112]
set_option maxHeartbeats 4000000 in
theorem fit_calls {w : World} {v : Value} {m : Nat} (h : UrlV v m) (hm : m ≤ 100000000) (k : Int) : Calls Try.prog 63 [v, .int .i64 k].toArray w fun e w' => (∃ q : Bool, e = .returned (.bool q)) ∧ Chg w w' No := by
  have hbig : big = 1000000000000 := rfl
  obtain ⟨a, b, p, c, d, f, rfl, h1, h2, h3, h4, h5, h6⟩ := h
  refine calls_zc (n := 55) (f := 63) (fn := Try.f63) Try.func63 rfl rfl (by simp) ?_
  refine zc_seq ?_
  refine zc_region ?_
  refine z_box (by first | exact want_none | exact want_L rfl) (by decide) rfl (fun w1 b1 hN1 => ?_)
  have hb1 : Blk w1 b1 90 [.string (bs a), .string (bs b), .int .i64 p, .string (bs c), .string (bs d), .string (bs f)] := hN1.blk
  by_cases hk1 : k = 1
  · subst hk1
    refine zl_pureL rfl ?_
    refine zl_nil ?_
    refine zk_seq ?_
    iterate 2 (refine zc_seq ?_)
    refine zc_region ?_
    refine zl_pureL rfl ?_
    refine zl_nil ?_
    refine zk_seq ?_
    refine zc_block ?_
    refine zc_seq ?_
    refine zc_region ?_
    refine z_cmpB (r := true) want_none (by decide) rfl rfl rfl (iff_of_true rfl (by omega)) ?_
    refine zl_pureL rfl ?_
    refine zl_nil ?_
    refine zk_seq ?_
    refine zc_true rfl ?_
    refine zc_seq ?_
    refine zc_region ?_
    refine z_fa want_none (by decide) rfl ?_
    refine z_loadB want_none (by decide) rfl (by assumption) (by rfl) ?_
    refine zl_call (by first | exact want_none | exact want_L rfl) rfl (by decide) rfl (web_calls a) ?_
    rintro _ v ⟨⟨q, rfl⟩, hv⟩
    obtain rfl := hv.symm
    refine ⟨_, rfl, ?_⟩
    cases q
    all_goals (repeat' (first | (show ZL _ _ _ _ _ _ _; first | (show ZL _ _ _ [] _ _ _; refine zl_nil ?_) | refine a_pure ?_ | refine a_skip ?_ | (show ZL _ _ _ (⟨_, (.load _ _), _, _, _, _⟩ :: _) _ _ _; first | refine a_loadB rfl ?_ | refine a_load1 rfl ?_ | refine a_loadAB rfl ?_) | (show ZL _ _ _ (⟨_, (.call _), _, _, _, _⟩ :: _) _ _ _; first | refine a_len rfl ?_ | refine a_lenL rfl ?_ | refine a_min rfl rfl fun _ _ _ _ => ?_ | refine a_max rfl rfl fun _ _ _ _ => ?_) | (show ZL _ _ _ (⟨_, (.binOp .add _ _ _ _), _, _, _, _⟩ :: _) _ _ _; first | refine a_catW rfl rfl fun _ _ => ?_ | refine a_add rfl rfl ?_ | refine a_add8 rfl rfl ?_ | refine a_addW rfl rfl fun _ _ => ?_) | (show ZL _ _ _ (⟨_, (.binOp .sub _ _ _ _), _, _, _, _⟩ :: _) _ _ _; first | refine a_sub rfl rfl ?_ | refine a_subW rfl rfl fun _ _ => ?_) | (show ZL _ _ _ (⟨_, (.fieldAddr _ _ _), _, _, _, _⟩ :: _) _ _ _; refine a_fa rfl ?_) | (show ZL _ _ _ (⟨_, (.indexAddr _ _ _), _, _, _, _⟩ :: _) _ _ _; refine a_ia rfl rfl ?_) | (show ZL _ _ _ (⟨_, (.slice _ _ _ _ _), _, _, _, _⟩ :: _) _ _ _; refine a_cutW rfl rfl rfl fun _ _ => ?_) | (show ZL _ _ _ (⟨_, (.index _ _ _), _, _, _, _⟩ :: _) _ _ _; refine a_idxW rfl rfl fun _ _ => ?_) | (show ZL _ _ _ (⟨_, (.convert _ _ _), _, _, _, _⟩ :: _) _ _ _; refine a_conv rfl ?_) | (show ZL _ _ _ (⟨_, (.binOp _ _ _ _ _), _, _, _, _⟩ :: _) _ _ _; first | refine a_cmpT rfl rfl rfl ?_ | refine a_cmpF rfl rfl rfl ?_ | refine a_shr rfl rfl fun _ _ => ?_ | refine a_and rfl rfl fun _ _ => ?_ | refine a_mul rfl rfl ?_) | (show ZL _ _ _ (⟨_, (.binOp _ _ _ _ _), _, _, _, _⟩ :: _) _ _ _; first | refine a_cmp rfl rfl rfl (fun _ => ?_) fun _ => ?_ | refine a_eq rfl rfl (fun _ => ?_) fun _ => ?_ | refine a_ne rfl rfl (fun _ => ?_) fun _ => ?_)) | (show ZC _ _ _ _ _ _; first | refine zc_seq ?_ | refine zc_region ?_ | refine zc_block ?_ | refine zc_skip ?_ | refine zc_exit ?_ | refine zc_ret ?_ | refine zc_true rfl ?_ | refine zc_false rfl ?_) | (show ZK _ _ _ _ _; first | refine zk_seq ?_ | refine zk_exit_then ?_ | refine zk_ret_then ?_ | refine zk_ret_block ?_ | refine zk_norm_block ?_ | refine zk_exit_block ?_ | refine zk_exit_block' rfl ?_)))
    all_goals exact zk_ret1 (.inr rfl) rfl rfl ⟨⟨_, rfl⟩, hN1.chg⟩
  by_cases hk2 : k = 2
  rotate_left
  · repeat' (first | (show ZL _ _ _ _ _ _ _; first | (show ZL _ _ _ [] _ _ _; refine zl_nil ?_) | refine a_pure ?_ | refine a_skip ?_ | (show ZL _ _ _ (⟨_, (.load _ _), _, _, _, _⟩ :: _) _ _ _; first | refine a_loadB rfl ?_ | refine a_load1 rfl ?_ | refine a_loadAB rfl ?_) | (show ZL _ _ _ (⟨_, (.call _), _, _, _, _⟩ :: _) _ _ _; first | refine a_len rfl ?_ | refine a_lenL rfl ?_ | refine a_min rfl rfl fun _ _ _ _ => ?_ | refine a_max rfl rfl fun _ _ _ _ => ?_) | (show ZL _ _ _ (⟨_, (.binOp .add _ _ _ _), _, _, _, _⟩ :: _) _ _ _; first | refine a_catW rfl rfl fun _ _ => ?_ | refine a_add rfl rfl ?_ | refine a_add8 rfl rfl ?_ | refine a_addW rfl rfl fun _ _ => ?_) | (show ZL _ _ _ (⟨_, (.binOp .sub _ _ _ _), _, _, _, _⟩ :: _) _ _ _; first | refine a_sub rfl rfl ?_ | refine a_subW rfl rfl fun _ _ => ?_) | (show ZL _ _ _ (⟨_, (.fieldAddr _ _ _), _, _, _, _⟩ :: _) _ _ _; refine a_fa rfl ?_) | (show ZL _ _ _ (⟨_, (.indexAddr _ _ _), _, _, _, _⟩ :: _) _ _ _; refine a_ia rfl rfl ?_) | (show ZL _ _ _ (⟨_, (.slice _ _ _ _ _), _, _, _, _⟩ :: _) _ _ _; refine a_cutW rfl rfl rfl fun _ _ => ?_) | (show ZL _ _ _ (⟨_, (.index _ _ _), _, _, _, _⟩ :: _) _ _ _; refine a_idxW rfl rfl fun _ _ => ?_) | (show ZL _ _ _ (⟨_, (.convert _ _ _), _, _, _, _⟩ :: _) _ _ _; refine a_conv rfl ?_) | (show ZL _ _ _ (⟨_, (.binOp _ _ _ _ _), _, _, _, _⟩ :: _) _ _ _; first | refine a_cmpT rfl rfl rfl ?_ | refine a_cmpF rfl rfl rfl ?_ | refine a_shr rfl rfl fun _ _ => ?_ | refine a_and rfl rfl fun _ _ => ?_ | refine a_mul rfl rfl ?_) | (show ZL _ _ _ (⟨_, (.binOp _ _ _ _ _), _, _, _, _⟩ :: _) _ _ _; first | refine a_cmp rfl rfl rfl (fun _ => ?_) fun _ => ?_ | refine a_eq rfl rfl (fun _ => ?_) fun _ => ?_ | refine a_ne rfl rfl (fun _ => ?_) fun _ => ?_)) | (show ZC _ _ _ _ _ _; first | refine zc_seq ?_ | refine zc_region ?_ | refine zc_block ?_ | refine zc_skip ?_ | refine zc_exit ?_ | refine zc_ret ?_ | refine zc_true rfl ?_ | refine zc_false rfl ?_) | (show ZK _ _ _ _ _; first | refine zk_seq ?_ | refine zk_exit_then ?_ | refine zk_ret_then ?_ | refine zk_ret_block ?_ | refine zk_norm_block ?_ | refine zk_exit_block ?_ | refine zk_exit_block' rfl ?_))
    all_goals exact zk_ret1 (.inr rfl) rfl rfl ⟨⟨_, rfl⟩, hN1.chg⟩
  subst hk2
  refine zl_pureL rfl ?_
  refine zl_nil ?_
  refine zk_seq ?_
  iterate 2 (refine zc_seq ?_)
  refine zc_region ?_
  refine zl_pureL rfl ?_
  refine zl_nil ?_
  refine zk_seq ?_
  refine zc_block ?_
  refine zc_seq ?_
  refine zc_region ?_
  refine z_cmpB (r := false) want_none (by decide) rfl rfl rfl (iff_of_false Bool.false_ne_true (by omega)) ?_
  refine zl_pureL rfl ?_
  refine zl_nil ?_
  refine zk_seq ?_
  refine zc_false rfl ?_
  refine zc_seq ?_
  refine zc_region ?_
  refine z_cmpB (r := true) want_none (by decide) rfl rfl rfl (iff_of_true rfl (by omega)) ?_
  refine zl_pureL rfl ?_
  refine zl_nil ?_
  refine zk_seq ?_
  refine zc_true rfl ?_
  refine zc_seq ?_
  refine zc_region ?_
  refine zl_call (by first | exact want_none | exact want_L rfl) rfl (by decide) rfl (wordsR_calls (l := sImgs) (by decide)) ?_
  rintro _ w2 ⟨v5, rfl, hO, hC2⟩
  refine ⟨_, rfl, ?_⟩
  obtain ⟨hw1, hw2⟩ := wordsN_le sImgs []
  have hsl : sImgs.length = 41 := by decide
  obtain ⟨ls, hls⟩ : ∃ x, x = wordsN [] sImgs := ⟨_, rfl⟩
  rw [← hls] at hO hw1 hw2
  rw [hsl] at hw1 hw2
  have hR : Row 0 w2 v5 ls 41 := ⟨hO, fun _ _ => Nat.zero_le _, fun x hx => by have := hw1 x hx; simpa using this⟩
  obtain ⟨A5, c5, rfl, hc5⟩ := hR.form
  have hb2 := hb1.no hC2
  refine zl_pureL rfl ?_
  refine zl_nil ?_
  refine zk_seq ?_
  refine zc_seq ?_
  refine zc_region ?_
  refine z_fa want_none (by decide) rfl ?_
  refine z_loadB want_none (by decide) rfl (by assumption) (by rfl) ?_
  refine zl_call (by first | exact want_none | exact want_L rfl) rfl (by decide) rfl (fold_calls c (by omega)) ?_
  rintro _ w3 ⟨⟨s, rfl, hs⟩, hC3⟩
  refine ⟨_, rfl, ?_⟩
  have hb3 := hb2.no hC3
  have hR3 := hR.no hC3
  refine zl_pureL rfl ?_
  refine zl_nil ?_
  refine zk_seq ?_
  iterate 2 (refine zc_seq ?_)
  refine zc_region ?_
  refine zl_pureL rfl ?_
  refine zl_nil ?_
  refine zk_seq ?_
  refine zc_block ?_
  refine zc_loopW (ι := Nat) (fun i u => [(2, .pointer (some ⟨b1, 0, none⟩)), (5, .slice A5 ls.length c5), (6, .string (bs s)), (7, .int .i64 (i : Nat))]) (fun i u => i ≤ ls.length ∧ u = w3) (fun i u => ls.length - i) 0 ⟨Nat.zero_le _, rfl⟩ ⟨rfl, rfl, rfl, rfl, trivial⟩ ?_
  rintro i u ⟨hi, hu⟩
  obtain rfl := hu.symm
  have hCw : Chg w w3 No := (hN1.chg.no hC2).no hC3
  by_cases hlt : i < ls.length
  rotate_left
  · iterate 2 (refine zc_seq ?_)
    refine zc_region ?_
    iterate 2 (refine zl_pureL rfl ?_)
    refine z_len want_none (by decide) rfl ?_
    refine z_cmpB (r := false) want_none (by decide) rfl rfl rfl (iff_of_false Bool.false_ne_true (by omega)) ?_
    refine zl_nil ?_
    refine zk_seq ?_
    refine zc_false rfl ?_
    refine zc_exit ?_
    iterate 2 (refine zk_exit_then ?_)
    refine zk_exit_block ?_
    refine zk_seq ?_
    refine zc_seq ?_
    refine zc_region ?_
    refine z_fa want_none (by decide) rfl ?_
    refine z_loadB want_none (by decide) rfl (by assumption) (by rfl) ?_
    refine zl_call (by first | exact want_none | exact want_L rfl) rfl (by decide) rfl (web_calls a) ?_
    rintro _ v ⟨⟨q, rfl⟩, hv⟩
    obtain rfl := hv.symm
    refine ⟨_, rfl, ?_⟩
    repeat' (first | (show ZL _ _ _ _ _ _ _; first | (show ZL _ _ _ [] _ _ _; refine zl_nil ?_) | refine a_pure ?_ | refine a_skip ?_ | (show ZL _ _ _ (⟨_, (.load _ _), _, _, _, _⟩ :: _) _ _ _; first | refine a_loadB rfl ?_ | refine a_load1 rfl ?_ | refine a_loadAB rfl ?_) | (show ZL _ _ _ (⟨_, (.call _), _, _, _, _⟩ :: _) _ _ _; first | refine a_len rfl ?_ | refine a_lenL rfl ?_ | refine a_min rfl rfl fun _ _ _ _ => ?_ | refine a_max rfl rfl fun _ _ _ _ => ?_) | (show ZL _ _ _ (⟨_, (.binOp .add _ _ _ _), _, _, _, _⟩ :: _) _ _ _; first | refine a_catW rfl rfl fun _ _ => ?_ | refine a_add rfl rfl ?_ | refine a_add8 rfl rfl ?_ | refine a_addW rfl rfl fun _ _ => ?_) | (show ZL _ _ _ (⟨_, (.binOp .sub _ _ _ _), _, _, _, _⟩ :: _) _ _ _; first | refine a_sub rfl rfl ?_ | refine a_subW rfl rfl fun _ _ => ?_) | (show ZL _ _ _ (⟨_, (.fieldAddr _ _ _), _, _, _, _⟩ :: _) _ _ _; refine a_fa rfl ?_) | (show ZL _ _ _ (⟨_, (.indexAddr _ _ _), _, _, _, _⟩ :: _) _ _ _; refine a_ia rfl rfl ?_) | (show ZL _ _ _ (⟨_, (.slice _ _ _ _ _), _, _, _, _⟩ :: _) _ _ _; refine a_cutW rfl rfl rfl fun _ _ => ?_) | (show ZL _ _ _ (⟨_, (.index _ _ _), _, _, _, _⟩ :: _) _ _ _; refine a_idxW rfl rfl fun _ _ => ?_) | (show ZL _ _ _ (⟨_, (.convert _ _ _), _, _, _, _⟩ :: _) _ _ _; refine a_conv rfl ?_) | (show ZL _ _ _ (⟨_, (.binOp _ _ _ _ _), _, _, _, _⟩ :: _) _ _ _; first | refine a_cmpT rfl rfl rfl ?_ | refine a_cmpF rfl rfl rfl ?_ | refine a_shr rfl rfl fun _ _ => ?_ | refine a_and rfl rfl fun _ _ => ?_ | refine a_mul rfl rfl ?_) | (show ZL _ _ _ (⟨_, (.binOp _ _ _ _ _), _, _, _, _⟩ :: _) _ _ _; first | refine a_cmp rfl rfl rfl (fun _ => ?_) fun _ => ?_ | refine a_eq rfl rfl (fun _ => ?_) fun _ => ?_ | refine a_ne rfl rfl (fun _ => ?_) fun _ => ?_)) | (show ZC _ _ _ _ _ _; first | refine zc_seq ?_ | refine zc_region ?_ | refine zc_block ?_ | refine zc_skip ?_ | refine zc_exit ?_ | refine zc_ret ?_ | refine zc_true rfl ?_ | refine zc_false rfl ?_) | (show ZK _ _ _ _ _; first | refine zk_seq ?_ | refine zk_exit_then ?_ | refine zk_ret_then ?_ | refine zk_ret_block ?_ | refine zk_norm_block ?_ | refine zk_exit_block ?_ | refine zk_exit_block' rfl ?_))
    exact zk_ret1 (.inr rfl) rfl rfl ⟨⟨_, rfl⟩, hCw⟩
  obtain ⟨b5, o5, c5', hv5, _, hcell⟩ := hR3.cells (by omega)
  simp only [Value.slice.injEq] at hv5
  obtain ⟨rfl, _, rfl⟩ := hv5
  obtain ⟨g1, g2⟩ := hcell i hlt
  iterate 2 (refine zc_seq ?_)
  refine zc_region ?_
  iterate 2 (refine zl_pureL rfl ?_)
  refine z_len want_none (by decide) rfl ?_
  refine z_cmpB (r := true) want_none (by decide) rfl rfl rfl (iff_of_true rfl (by omega)) ?_
  refine zl_nil ?_
  refine zk_seq ?_
  refine zc_true rfl ?_
  refine zc_skip ?_
  refine zk_seq ?_
  refine zc_seq ?_
  refine zc_block ?_
  refine zc_seq ?_
  refine zc_region ?_
  refine z_fa want_none (by decide) rfl ?_
  refine z_loadB want_none (by decide) rfl (by assumption) (by rfl) ?_
  refine z_eqL (by first | exact want_none | exact want_L rfl) (by decide) rfl rfl (fun hc => ?_) (fun hc => ?_)
  rotate_left
  · iterate 4 (refine zl_pureL rfl ?_)
    iterate 4 (refine zl_skip rfl ?_)
    iterate 4 (refine zl_pureL rfl ?_)
    iterate 4 (refine zl_skip rfl ?_)
    iterate 2 (refine zl_pureL rfl ?_)
    refine zl_nil ?_
    refine zk_seq ?_
    refine zc_false rfl ?_
    refine zc_skip ?_
    refine zk_norm_block ?_
    refine zk_seq ?_
    refine zc_region ?_
    refine zl_pureL rfl ?_
    refine z_add want_none (by decide) rfl rfl (by omega) (by omega) ?_
    refine zl_pureL rfl ?_
    refine zl_nil ?_
    exact zk_loopW (i + 1) ⟨by omega, rfl⟩ (by omega) ⟨rfl, rfl, rfl, get_int rfl (by omega), trivial⟩
  iterate 4 (refine zl_pureL rfl ?_)
  refine z_ia (want_L rfl) (by decide) rfl rfl (by omega) (by omega) ?_
  refine z_load1 (by first | exact want_none | exact want_L rfl) (by decide) rfl (cell_at g1 (by omega)) ?_
  repeat' (first | (show ZL _ _ _ _ _ _ _; first | (show ZL _ _ _ [] _ _ _; refine zl_nil ?_) | refine a_pure ?_ | refine a_skip ?_ | (show ZL _ _ _ (⟨_, (.load _ _), _, _, _, _⟩ :: _) _ _ _; first | refine a_loadB rfl ?_ | refine a_load1 rfl ?_ | refine a_loadAB rfl ?_) | (show ZL _ _ _ (⟨_, (.call _), _, _, _, _⟩ :: _) _ _ _; first | refine a_len rfl ?_ | refine a_lenL rfl ?_ | refine a_min rfl rfl fun _ _ _ _ => ?_ | refine a_max rfl rfl fun _ _ _ _ => ?_) | (show ZL _ _ _ (⟨_, (.binOp .add _ _ _ _), _, _, _, _⟩ :: _) _ _ _; first | refine a_catW rfl rfl fun _ _ => ?_ | refine a_add rfl rfl ?_ | refine a_add8 rfl rfl ?_ | refine a_addW rfl rfl fun _ _ => ?_) | (show ZL _ _ _ (⟨_, (.binOp .sub _ _ _ _), _, _, _, _⟩ :: _) _ _ _; first | refine a_sub rfl rfl ?_ | refine a_subW rfl rfl fun _ _ => ?_) | (show ZL _ _ _ (⟨_, (.fieldAddr _ _ _), _, _, _, _⟩ :: _) _ _ _; refine a_fa rfl ?_) | (show ZL _ _ _ (⟨_, (.indexAddr _ _ _), _, _, _, _⟩ :: _) _ _ _; refine a_ia rfl rfl ?_) | (show ZL _ _ _ (⟨_, (.slice _ _ _ _ _), _, _, _, _⟩ :: _) _ _ _; refine a_cutW rfl rfl rfl fun _ _ => ?_) | (show ZL _ _ _ (⟨_, (.index _ _ _), _, _, _, _⟩ :: _) _ _ _; refine a_idxW rfl rfl fun _ _ => ?_) | (show ZL _ _ _ (⟨_, (.convert _ _ _), _, _, _, _⟩ :: _) _ _ _; refine a_conv rfl ?_) | (show ZL _ _ _ (⟨_, (.binOp _ _ _ _ _), _, _, _, _⟩ :: _) _ _ _; first | refine a_cmpT rfl rfl rfl ?_ | refine a_cmpF rfl rfl rfl ?_ | refine a_shr rfl rfl fun _ _ => ?_ | refine a_and rfl rfl fun _ _ => ?_ | refine a_mul rfl rfl ?_) | (show ZL _ _ _ (⟨_, (.binOp _ _ _ _ _), _, _, _, _⟩ :: _) _ _ _; first | refine a_cmp rfl rfl rfl (fun _ => ?_) fun _ => ?_ | refine a_eq rfl rfl (fun _ => ?_) fun _ => ?_ | refine a_ne rfl rfl (fun _ => ?_) fun _ => ?_)) | (show ZC _ _ _ _ _ _; first | refine zc_seq ?_ | refine zc_region ?_ | refine zc_block ?_ | refine zc_skip ?_ | refine zc_exit ?_ | refine zc_ret ?_ | refine zc_true rfl ?_ | refine zc_false rfl ?_) | (show ZK _ _ _ _ _; first | refine zk_seq ?_ | refine zk_exit_then ?_ | refine zk_ret_then ?_ | refine zk_ret_block ?_ | refine zk_norm_block ?_ | refine zk_exit_block ?_ | refine zk_exit_block' rfl ?_))
  rename_i t1 ht1
  refine zl_call (by first | exact want_none | exact want_L rfl) rfl (by decide) rfl (begins_calls s t1 (by omega) (by omega)) ?_
  rintro _ v ⟨rfl, hv⟩
  obtain rfl := hv.symm
  refine ⟨_, rfl, ?_⟩
  cases beginsN s t1
  · iterate 4 (refine zl_pureL rfl ?_)
    refine z_ia (want_L rfl) (by decide) rfl rfl (by omega) (by omega) ?_
    refine z_load1 (by first | exact want_none | exact want_L rfl) (by decide) rfl (cell_at g1 (by omega)) ?_
    repeat' (first | (show ZL _ _ _ _ _ _ _; first | (show ZL _ _ _ [] _ _ _; refine zl_nil ?_) | refine a_pure ?_ | refine a_skip ?_ | (show ZL _ _ _ (⟨_, (.load _ _), _, _, _, _⟩ :: _) _ _ _; first | refine a_loadB rfl ?_ | refine a_load1 rfl ?_ | refine a_loadAB rfl ?_) | (show ZL _ _ _ (⟨_, (.call _), _, _, _, _⟩ :: _) _ _ _; first | refine a_len rfl ?_ | refine a_lenL rfl ?_ | refine a_min rfl rfl fun _ _ _ _ => ?_ | refine a_max rfl rfl fun _ _ _ _ => ?_) | (show ZL _ _ _ (⟨_, (.binOp .add _ _ _ _), _, _, _, _⟩ :: _) _ _ _; first | refine a_catW rfl rfl fun _ _ => ?_ | refine a_add rfl rfl ?_ | refine a_add8 rfl rfl ?_ | refine a_addW rfl rfl fun _ _ => ?_) | (show ZL _ _ _ (⟨_, (.binOp .sub _ _ _ _), _, _, _, _⟩ :: _) _ _ _; first | refine a_sub rfl rfl ?_ | refine a_subW rfl rfl fun _ _ => ?_) | (show ZL _ _ _ (⟨_, (.fieldAddr _ _ _), _, _, _, _⟩ :: _) _ _ _; refine a_fa rfl ?_) | (show ZL _ _ _ (⟨_, (.indexAddr _ _ _), _, _, _, _⟩ :: _) _ _ _; refine a_ia rfl rfl ?_) | (show ZL _ _ _ (⟨_, (.slice _ _ _ _ _), _, _, _, _⟩ :: _) _ _ _; refine a_cutW rfl rfl rfl fun _ _ => ?_) | (show ZL _ _ _ (⟨_, (.index _ _ _), _, _, _, _⟩ :: _) _ _ _; refine a_idxW rfl rfl fun _ _ => ?_) | (show ZL _ _ _ (⟨_, (.convert _ _ _), _, _, _, _⟩ :: _) _ _ _; refine a_conv rfl ?_) | (show ZL _ _ _ (⟨_, (.binOp _ _ _ _ _), _, _, _, _⟩ :: _) _ _ _; first | refine a_cmpT rfl rfl rfl ?_ | refine a_cmpF rfl rfl rfl ?_ | refine a_shr rfl rfl fun _ _ => ?_ | refine a_and rfl rfl fun _ _ => ?_ | refine a_mul rfl rfl ?_) | (show ZL _ _ _ (⟨_, (.binOp _ _ _ _ _), _, _, _, _⟩ :: _) _ _ _; first | refine a_cmp rfl rfl rfl (fun _ => ?_) fun _ => ?_ | refine a_eq rfl rfl (fun _ => ?_) fun _ => ?_ | refine a_ne rfl rfl (fun _ => ?_) fun _ => ?_)) | (show ZC _ _ _ _ _ _; first | refine zc_seq ?_ | refine zc_region ?_ | refine zc_block ?_ | refine zc_skip ?_ | refine zc_exit ?_ | refine zc_ret ?_ | refine zc_true rfl ?_ | refine zc_false rfl ?_) | (show ZK _ _ _ _ _; first | refine zk_seq ?_ | refine zk_exit_then ?_ | refine zk_ret_then ?_ | refine zk_ret_block ?_ | refine zk_norm_block ?_ | refine zk_exit_block ?_ | refine zk_exit_block' rfl ?_))
    rename_i t2 ht2
    refine zl_call (by first | exact want_none | exact want_L rfl) rfl (by decide) rfl (begins_calls s t2 (by omega) (by omega)) ?_
    rintro _ v ⟨rfl, hv⟩
    obtain rfl := hv.symm
    refine ⟨_, rfl, ?_⟩
    cases beginsN s t2
    all_goals (repeat' (first | (show ZL _ _ _ _ _ _ _; first | (show ZL _ _ _ [] _ _ _; refine zl_nil ?_) | refine a_pure ?_ | refine a_skip ?_ | (show ZL _ _ _ (⟨_, (.load _ _), _, _, _, _⟩ :: _) _ _ _; first | refine a_loadB rfl ?_ | refine a_load1 rfl ?_ | refine a_loadAB rfl ?_) | (show ZL _ _ _ (⟨_, (.call _), _, _, _, _⟩ :: _) _ _ _; first | refine a_len rfl ?_ | refine a_lenL rfl ?_ | refine a_min rfl rfl fun _ _ _ _ => ?_ | refine a_max rfl rfl fun _ _ _ _ => ?_) | (show ZL _ _ _ (⟨_, (.binOp .add _ _ _ _), _, _, _, _⟩ :: _) _ _ _; first | refine a_catW rfl rfl fun _ _ => ?_ | refine a_add rfl rfl ?_ | refine a_add8 rfl rfl ?_ | refine a_addW rfl rfl fun _ _ => ?_) | (show ZL _ _ _ (⟨_, (.binOp .sub _ _ _ _), _, _, _, _⟩ :: _) _ _ _; first | refine a_sub rfl rfl ?_ | refine a_subW rfl rfl fun _ _ => ?_) | (show ZL _ _ _ (⟨_, (.fieldAddr _ _ _), _, _, _, _⟩ :: _) _ _ _; refine a_fa rfl ?_) | (show ZL _ _ _ (⟨_, (.indexAddr _ _ _), _, _, _, _⟩ :: _) _ _ _; refine a_ia rfl rfl ?_) | (show ZL _ _ _ (⟨_, (.slice _ _ _ _ _), _, _, _, _⟩ :: _) _ _ _; refine a_cutW rfl rfl rfl fun _ _ => ?_) | (show ZL _ _ _ (⟨_, (.index _ _ _), _, _, _, _⟩ :: _) _ _ _; refine a_idxW rfl rfl fun _ _ => ?_) | (show ZL _ _ _ (⟨_, (.convert _ _ _), _, _, _, _⟩ :: _) _ _ _; refine a_conv rfl ?_) | (show ZL _ _ _ (⟨_, (.binOp _ _ _ _ _), _, _, _, _⟩ :: _) _ _ _; first | refine a_cmpT rfl rfl rfl ?_ | refine a_cmpF rfl rfl rfl ?_ | refine a_shr rfl rfl fun _ _ => ?_ | refine a_and rfl rfl fun _ _ => ?_ | refine a_mul rfl rfl ?_) | (show ZL _ _ _ (⟨_, (.binOp _ _ _ _ _), _, _, _, _⟩ :: _) _ _ _; first | refine a_cmp rfl rfl rfl (fun _ => ?_) fun _ => ?_ | refine a_eq rfl rfl (fun _ => ?_) fun _ => ?_ | refine a_ne rfl rfl (fun _ => ?_) fun _ => ?_)) | (show ZC _ _ _ _ _ _; first | refine zc_seq ?_ | refine zc_region ?_ | refine zc_block ?_ | refine zc_skip ?_ | refine zc_exit ?_ | refine zc_ret ?_ | refine zc_true rfl ?_ | refine zc_false rfl ?_) | (show ZK _ _ _ _ _; first | refine zk_seq ?_ | refine zk_exit_then ?_ | refine zk_ret_then ?_ | refine zk_ret_block ?_ | refine zk_norm_block ?_ | refine zk_exit_block ?_ | refine zk_exit_block' rfl ?_)))
    all_goals first | exact zk_ret1 (.inr rfl) rfl rfl ⟨⟨_, rfl⟩, hCw⟩ | exact zk_loopW (i + 1) ⟨by omega, rfl⟩ (by omega) ⟨rfl, rfl, rfl, get_int rfl (by omega), trivial⟩
  · iterate 4 (refine zl_pureL rfl ?_)
    iterate 4 (refine zl_skip rfl ?_)
    iterate 2 (refine zl_pureL rfl ?_)
    refine zl_nil ?_
    refine zk_seq ?_
    refine zc_true rfl ?_
    refine zc_seq ?_
    refine zc_region ?_
    refine zl_pureL rfl ?_
    refine zl_nil ?_
    refine zk_seq ?_
    refine zc_ret ?_
    refine zk_ret_block ?_
    iterate 2 (refine zk_ret_then ?_)
    refine zk_ret_block ?_
    refine zk_ret_then ?_
    refine zk_ret_block ?_
    refine zk_ret_then ?_
    exact zk_ret1 (.inr rfl) rfl rfl ⟨⟨_, rfl⟩, hCw⟩
set_option maxHeartbeats 4000000 in
theorem good_calls {w : World} (l : List UInt8) (hl : l.length ≤ 300) (k : Int) : Calls Try.prog 53 [.string (bs l), .int .i64 k].toArray w fun e w' => (∃ q : Bool, e = .returned (.bool q)) ∧ Chg w w' No := by
  refine calls_zc (n := 25) (f := 53) (fn := Try.f53) Try.func53 rfl rfl (by simp) ?_
  refine zc_seq ?_
  refine zc_region ?_
  refine zl_pureL rfl ?_
  refine zl_nil ?_
  refine zk_seq ?_
  refine zc_seq ?_
  refine zc_region ?_
  refine zl_pureL rfl ?_
  refine zl_call (by first | exact want_none | exact want_L rfl) rfl (by decide) rfl (parse_calls l hl) ?_
  rintro _ w1 ⟨⟨v, j, rfl, hV⟩, hC1⟩
  refine ⟨_, rfl, ?_⟩
  have hV0 := hV
  obtain ⟨a, b, p, c, d, f, rfl, h1, h2, h3, h4, h5, h6⟩ := hV
  iterate 3 (refine zl_pureL rfl ?_)
  refine z_alloc (by first | exact want_none | exact want_L rfl) (by decide) (fun w2 b2 hN2 => ?_)
  have hb2 : Blk w2 b2 90 [.string ⟨#[]⟩, .string ⟨#[]⟩, .int .i64 0, .string ⟨#[]⟩, .string ⟨#[]⟩, .string ⟨#[]⟩] := hN2.blk
  refine z_store (by first | exact want_none | exact want_L rfl) rfl rfl rfl (by assumption) (by first | exact Nat.le_refl _ | simp [Value.cells]) (by simp [Value.cells, Value.oneCell']) (fun w3 hU3 => ?_)
  have hb3 : UB w3 b2 a b p c d f := hU3.blk
  have hC3 : Chg w w3 No := (hC1.no hN2.chg).upd hU3 (by have := hN2.at_; have := hC1.size; omega)
  by_cases hj : j = 0
  rotate_left
  · refine zl_pureL rfl ?_
    refine zl_nil ?_
    refine zk_seq ?_
    refine zc_seq ?_
    refine zc_region ?_
    refine zl_pureL rfl ?_
    refine z_cmpB (r := false) want_none (by decide) rfl rfl rfl (iff_of_false Bool.false_ne_true (by omega)) ?_
    refine zl_pureL rfl ?_
    iterate 2 (refine zl_skip rfl ?_)
    refine zl_pureL rfl ?_
    refine zl_skip rfl ?_
    iterate 2 (refine zl_pureL rfl ?_)
    refine zl_skip rfl ?_
    refine zl_pureL rfl ?_
    refine zl_skip rfl ?_
    iterate 2 (refine zl_pureL rfl ?_)
    refine zl_nil ?_
    refine zk_seq ?_
    refine zc_ret ?_
    exact zk_ret1 (.inr rfl) rfl rfl ⟨⟨_, rfl⟩, hC3⟩
  subst hj
  refine zl_pureL rfl ?_
  refine zl_nil ?_
  refine zk_seq ?_
  refine zc_seq ?_
  refine zc_region ?_
  refine zl_pureL rfl ?_
  refine z_cmpB (r := true) want_none (by decide) rfl rfl rfl (iff_of_true rfl (by omega)) ?_
  refine zl_pureL rfl ?_
  refine z_loadAB (want_L rfl) (by decide) rfl (by assumption) (by rfl) ?_
  refine zl_call (by first | exact want_none | exact want_L rfl) rfl (by decide) rfl (utext_calls hV0 (by omega)) ?_
  rintro _ w4 ⟨⟨s, rfl, hs⟩, hC4⟩
  refine ⟨_, rfl, ?_⟩
  have hb4 := hb3.no hC4
  repeat' (first | (show ZL _ _ _ _ _ _ _; first | (show ZL _ _ _ [] _ _ _; refine zl_nil ?_) | refine a_pure ?_ | refine a_skip ?_ | (show ZL _ _ _ (⟨_, (.load _ _), _, _, _, _⟩ :: _) _ _ _; first | refine a_loadB rfl ?_ | refine a_load1 rfl ?_ | refine a_loadAB rfl ?_) | (show ZL _ _ _ (⟨_, (.call _), _, _, _, _⟩ :: _) _ _ _; first | refine a_len rfl ?_ | refine a_lenL rfl ?_ | refine a_min rfl rfl fun _ _ _ _ => ?_ | refine a_max rfl rfl fun _ _ _ _ => ?_) | (show ZL _ _ _ (⟨_, (.binOp .add _ _ _ _), _, _, _, _⟩ :: _) _ _ _; first | refine a_catW rfl rfl fun _ _ => ?_ | refine a_add rfl rfl ?_ | refine a_add8 rfl rfl ?_ | refine a_addW rfl rfl fun _ _ => ?_) | (show ZL _ _ _ (⟨_, (.binOp .sub _ _ _ _), _, _, _, _⟩ :: _) _ _ _; first | refine a_sub rfl rfl ?_ | refine a_subW rfl rfl fun _ _ => ?_) | (show ZL _ _ _ (⟨_, (.fieldAddr _ _ _), _, _, _, _⟩ :: _) _ _ _; refine a_fa rfl ?_) | (show ZL _ _ _ (⟨_, (.indexAddr _ _ _), _, _, _, _⟩ :: _) _ _ _; refine a_ia rfl rfl ?_) | (show ZL _ _ _ (⟨_, (.slice _ _ _ _ _), _, _, _, _⟩ :: _) _ _ _; refine a_cutW rfl rfl rfl fun _ _ => ?_) | (show ZL _ _ _ (⟨_, (.index _ _ _), _, _, _, _⟩ :: _) _ _ _; refine a_idxW rfl rfl fun _ _ => ?_) | (show ZL _ _ _ (⟨_, (.convert _ _ _), _, _, _, _⟩ :: _) _ _ _; refine a_conv rfl ?_) | (show ZL _ _ _ (⟨_, (.binOp _ _ _ _ _), _, _, _, _⟩ :: _) _ _ _; first | refine a_cmpT rfl rfl rfl ?_ | refine a_cmpF rfl rfl rfl ?_ | refine a_shr rfl rfl fun _ _ => ?_ | refine a_and rfl rfl fun _ _ => ?_ | refine a_mul rfl rfl ?_) | (show ZL _ _ _ (⟨_, (.binOp _ _ _ _ _), _, _, _, _⟩ :: _) _ _ _; first | refine a_cmp rfl rfl rfl (fun _ => ?_) fun _ => ?_ | refine a_eq rfl rfl (fun _ => ?_) fun _ => ?_ | refine a_ne rfl rfl (fun _ => ?_) fun _ => ?_)) | (show ZC _ _ _ _ _ _; first | refine zc_seq ?_ | refine zc_region ?_ | refine zc_block ?_ | refine zc_skip ?_ | refine zc_exit ?_ | refine zc_ret ?_ | refine zc_true rfl ?_ | refine zc_false rfl ?_) | (show ZK _ _ _ _ _; first | refine zk_seq ?_ | refine zk_exit_then ?_ | refine zk_ret_then ?_ | refine zk_ret_block ?_ | refine zk_norm_block ?_ | refine zk_exit_block ?_ | refine zk_exit_block' rfl ?_))
  · refine zl_call (by first | exact want_none | exact want_L rfl) rfl (by decide) rfl (fit_calls hV0 (by omega) k) ?_
    rintro _ w5 ⟨⟨q, rfl⟩, hC5⟩
    refine ⟨_, rfl, ?_⟩
    repeat' (first | (show ZL _ _ _ _ _ _ _; first | (show ZL _ _ _ [] _ _ _; refine zl_nil ?_) | refine a_pure ?_ | refine a_skip ?_ | (show ZL _ _ _ (⟨_, (.load _ _), _, _, _, _⟩ :: _) _ _ _; first | refine a_loadB rfl ?_ | refine a_load1 rfl ?_ | refine a_loadAB rfl ?_) | (show ZL _ _ _ (⟨_, (.call _), _, _, _, _⟩ :: _) _ _ _; first | refine a_len rfl ?_ | refine a_lenL rfl ?_ | refine a_min rfl rfl fun _ _ _ _ => ?_ | refine a_max rfl rfl fun _ _ _ _ => ?_) | (show ZL _ _ _ (⟨_, (.binOp .add _ _ _ _), _, _, _, _⟩ :: _) _ _ _; first | refine a_catW rfl rfl fun _ _ => ?_ | refine a_add rfl rfl ?_ | refine a_add8 rfl rfl ?_ | refine a_addW rfl rfl fun _ _ => ?_) | (show ZL _ _ _ (⟨_, (.binOp .sub _ _ _ _), _, _, _, _⟩ :: _) _ _ _; first | refine a_sub rfl rfl ?_ | refine a_subW rfl rfl fun _ _ => ?_) | (show ZL _ _ _ (⟨_, (.fieldAddr _ _ _), _, _, _, _⟩ :: _) _ _ _; refine a_fa rfl ?_) | (show ZL _ _ _ (⟨_, (.indexAddr _ _ _), _, _, _, _⟩ :: _) _ _ _; refine a_ia rfl rfl ?_) | (show ZL _ _ _ (⟨_, (.slice _ _ _ _ _), _, _, _, _⟩ :: _) _ _ _; refine a_cutW rfl rfl rfl fun _ _ => ?_) | (show ZL _ _ _ (⟨_, (.index _ _ _), _, _, _, _⟩ :: _) _ _ _; refine a_idxW rfl rfl fun _ _ => ?_) | (show ZL _ _ _ (⟨_, (.convert _ _ _), _, _, _, _⟩ :: _) _ _ _; refine a_conv rfl ?_) | (show ZL _ _ _ (⟨_, (.binOp _ _ _ _ _), _, _, _, _⟩ :: _) _ _ _; first | refine a_cmpT rfl rfl rfl ?_ | refine a_cmpF rfl rfl rfl ?_ | refine a_shr rfl rfl fun _ _ => ?_ | refine a_and rfl rfl fun _ _ => ?_ | refine a_mul rfl rfl ?_) | (show ZL _ _ _ (⟨_, (.binOp _ _ _ _ _), _, _, _, _⟩ :: _) _ _ _; first | refine a_cmp rfl rfl rfl (fun _ => ?_) fun _ => ?_ | refine a_eq rfl rfl (fun _ => ?_) fun _ => ?_ | refine a_ne rfl rfl (fun _ => ?_) fun _ => ?_)) | (show ZC _ _ _ _ _ _; first | refine zc_seq ?_ | refine zc_region ?_ | refine zc_block ?_ | refine zc_skip ?_ | refine zc_exit ?_ | refine zc_ret ?_ | refine zc_true rfl ?_ | refine zc_false rfl ?_) | (show ZK _ _ _ _ _; first | refine zk_seq ?_ | refine zk_exit_then ?_ | refine zk_ret_then ?_ | refine zk_ret_block ?_ | refine zk_norm_block ?_ | refine zk_exit_block ?_ | refine zk_exit_block' rfl ?_))
    exact zk_ret1 (.inr rfl) rfl rfl ⟨⟨_, rfl⟩, (hC3.no hC4).no hC5⟩
  · exact zk_ret1 (.inr rfl) rfl rfl ⟨⟨_, rfl⟩, hC3.no hC4⟩
end Go.Proofs.Ytbcmiijollpgeaa.T
