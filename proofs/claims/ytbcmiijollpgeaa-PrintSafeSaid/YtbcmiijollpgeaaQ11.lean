import Derived.Test.YtbcmiijollpgeaaQWh
/- What an article may be: its parts, each by itself. -/
namespace Go.Proofs.Ytbcmiijollpgeaa.T
open Go Go.Z Go.Proofs
set_option linter.unusedVariables false
theorem AT.ok_drop : ∀ (t : AT) (i : Nat) (x : Hd) (k r : AT), t.ok → t.dropN i = .cons x k r → HdOk x ∧ k.ok
  | .nil, 0, x, k, r, h, he => by cases he
  | .cons _ _ _, 0, x, k, r, h, he => by cases he; exact ⟨h.1, h.2.1⟩
  | .nil, i + 1, x, k, r, h, he => by cases he
  | .cons _ _ q, i + 1, x, k, r, h, he => AT.ok_drop q i x k r h.2.2 he
theorem HdOk.nm {x : Hd} (h : HdOk x) : x.name.length ≤ 10 := nm_len _ h.1
theorem HdOk.tx {x : Hd} (h : HdOk x) : x.text.length ≤ 15 := tx_len _ h.2.2.2
set_option maxHeartbeats 8000000 in
theorem inX_calls {w : World} {v : Value} (l : List (List UInt8)) (x : List UInt8) (h : RdS w 9 1 v l.length (cellsS l)) (hl : l.length ≤ 100000) : Calls Try.prog 52 [v, .string (bs x)].toArray w fun e w' => (∃ q : Bool, e = .returned (.bool q) ∧ (q = true → x ∈ l)) ∧ w' = w := by
  obtain ⟨A, c, rfl, hc⟩ := h.form
  refine calls_zc (n := 18) (f := 52) (fn := Try.f52) Try.func52 rfl rfl (by simp) ?_
  refine zc_seq ?_
  refine zc_region ?_
  refine zl_pureL rfl ?_
  refine zl_nil ?_
  refine zk_seq ?_
  iterate 2 (refine zc_seq ?_)
  refine zc_region ?_
  refine zl_pureL rfl ?_
  refine zl_nil ?_
  refine zk_seq ?_
  refine zc_block ?_
  refine zc_loopW (ι := Nat) (fun i u => [(0, .slice A l.length c), (1, .string (bs x)), (5, .int .i64 i)]) (fun i u => i ≤ l.length ∧ u = w) (fun i u => l.length - i) 0 ⟨Nat.zero_le _, rfl⟩ ?_ ?_
  · exact ⟨rfl, rfl, rfl, trivial⟩
  rintro i u ⟨hi, rfl⟩
  by_cases hlt : i < l.length
  · obtain ⟨b, o, c', hv, _, hcell⟩ := h.some (by omega)
    cases hv
    have hc0 := hcell (i * 1) _ (by rw [Nat.mul_one]; exact cellsS_at l i hlt)
    iterate 2 (refine zc_seq ?_)
    refine zc_region ?_
    iterate 2 (refine zl_pureL rfl ?_)
    refine z_len want_none (by decide) rfl ?_
    refine z_cmpB (r := true) want_none (by decide) rfl rfl rfl (iff_of_true rfl (by omega)) ?_
    refine zl_nil ?_
    refine zk_seq ?_
    refine zc_true rfl ?_
    refine zc_skip ?_
    refine zk_seq ?_
    refine zc_seq ?_
    refine zc_block ?_
    refine zc_seq ?_
    refine zc_region ?_
    iterate 2 (refine zl_pureL rfl ?_)
    refine z_ia want_none (by decide) rfl rfl (by omega) (by omega) ?_
    refine z_load1 want_none (by decide) rfl (by assumption) ?_
    refine zl_pureL rfl ?_
    refine z_eqL (by first | exact want_none | exact want_L rfl) (by decide) rfl rfl (fun hc => ?_) (fun hc => ?_)
    · refine zl_nil ?_
      refine zk_seq ?_
      refine zc_true rfl ?_
      refine zc_seq ?_
      refine zc_region ?_
      refine zl_pureL rfl ?_
      refine zl_nil ?_
      refine zk_seq ?_
      refine zc_ret ?_
      refine zk_ret_block ?_
      iterate 2 (refine zk_ret_then ?_)
      refine zk_ret_block ?_
      refine zk_ret_then ?_
      exact zk_ret1 (.inr rfl) rfl rfl ⟨⟨true, rfl, fun _ => by rw [← hc]; exact getD_mem l i hlt⟩, rfl⟩
    · refine zl_nil ?_
      refine zk_seq ?_
      refine zc_false rfl ?_
      refine zc_skip ?_
      refine zk_norm_block ?_
      refine zk_seq ?_
      refine zc_region ?_
      refine zl_pureL rfl ?_
      refine z_add want_none (by decide) rfl rfl (by omega) (by omega) ?_
      refine zl_pureL rfl ?_
      refine zl_nil ?_
      exact zk_loopW (i + 1) ⟨by omega, rfl⟩ (by omega) ⟨rfl, rfl, get_int rfl (by simp), trivial⟩
  · obtain rfl : i = l.length := by omega
    iterate 2 (refine zc_seq ?_)
    refine zc_region ?_
    iterate 2 (refine zl_pureL rfl ?_)
    refine z_len want_none (by decide) rfl ?_
    refine z_cmpB (r := false) want_none (by decide) rfl rfl rfl (iff_of_false Bool.false_ne_true (by omega)) ?_
    refine zl_nil ?_
    refine zk_seq ?_
    refine zc_false rfl ?_
    refine zc_exit ?_
    iterate 2 (refine zk_exit_then ?_)
    refine zk_exit_block ?_
    refine zk_seq ?_
    refine zc_seq ?_
    refine zc_region ?_
    refine zl_pureL rfl ?_
    refine zl_nil ?_
    refine zk_seq ?_
    refine zc_ret ?_
    exact zk_ret1 (.inr rfl) rfl rfl ⟨⟨false, rfl, fun h => by cases h⟩, rfl⟩
set_option maxHeartbeats 8000000 in
theorem inW_calls {w : World} (x W : List UInt8) (hW : W.length ≤ 1000) : Calls Try.prog 42 [.string (bs x), .string (bs W)].toArray w fun e w' => (∃ q : Bool, e = .returned (.bool q) ∧ (q = true → x ∈ wordsN [] W)) ∧ Chg w w' No := by
  refine calls_zc (n := 9) (f := 42) (fn := Try.f42) Try.func42 rfl rfl (by simp) ?_
  refine zc_seq ?_
  refine zc_region ?_
  refine zl_pureL rfl ?_
  refine zl_nil ?_
  refine zk_seq ?_
  refine zc_seq ?_
  refine zc_region ?_
  refine zl_pureL rfl ?_
  refine zl_call (by first | exact want_none | exact want_L rfl) rfl (by decide) rfl (wordsR_calls (l := W) (by omega)) ?_
  rintro _ w1 ⟨v, rfl, hO, hC⟩
  refine ⟨_, rfl, ?_⟩
  have hw2 := (wordsN_le W []).2
  obtain ⟨A, c, hv, _⟩ := hO.rd.form
  subst hv
  refine zl_pureL rfl ?_
  refine zl_call (by first | exact want_none | exact want_L rfl) rfl (by decide) rfl (inX_calls _ x hO.rd (by omega)) ?_
  rintro _ w2 ⟨⟨q, rfl, hq⟩, hw⟩
  obtain rfl := hw.symm
  refine ⟨_, rfl, ?_⟩
  refine zl_pureL rfl ?_
  refine zl_nil ?_
  refine zk_seq ?_
  refine zc_ret ?_
  exact zk_ret1 (.inr rfl) rfl rfl ⟨⟨q, rfl, hq⟩, hC⟩
set_option maxHeartbeats 8000000 in
theorem of_calls {w : World} {v : Value} (t : AT) (W : List UInt8) (hW : W.length ≤ 1000) (h : TreeAt false w v t) (hs : t.size ≤ big) : Calls Try.prog 30 [v, .string (bs W)].toArray w fun e w' => (∃ q : Bool, e = .returned (.bool q) ∧ (q = true → ∀ i x k r, i < t.len → t.dropN i = .cons x k r → x.name ∈ wordsN [] W)) ∧ Chg w w' No := by
  have hbig : big = 1000000000000 := rfl
  obtain ⟨A, c, rfl, hc⟩ := h.form
  have hls := t.len_size
  refine calls_zc (n := 20) (f := 30) (fn := Try.f30) Try.func30 rfl rfl (by simp) ?_
  refine zc_seq ?_
  refine zc_region ?_
  refine zl_pureL rfl ?_
  refine zl_nil ?_
  refine zk_seq ?_
  iterate 2 (refine zc_seq ?_)
  refine zc_region ?_
  refine zl_pureL rfl ?_
  refine zl_nil ?_
  refine zk_seq ?_
  refine zc_block ?_
  refine zc_loopW (ι := Nat) (fun i u => [(0, .slice A t.len c), (1, .string (bs W)), (5, .int .i64 (i : Nat))]) (fun i u => i ≤ t.len ∧ (∀ j x k r, j < i → t.dropN j = .cons x k r → x.name ∈ wordsN [] W) ∧ Chg w u No) (fun i u => t.len - i) 0 ⟨Nat.zero_le _, fun j _ _ _ hj => absurd hj (Nat.not_lt_zero j), Chg.refl _ _⟩ ⟨rfl, rfl, rfl, trivial⟩ ?_
  rintro i u ⟨hi, hall, hC⟩
  by_cases hlt : i < t.len
  rotate_left
  · obtain rfl : i = t.len := by omega
    iterate 2 (refine zc_seq ?_)
    refine zc_region ?_
    iterate 2 (refine zl_pureL rfl ?_)
    refine z_len want_none (by decide) rfl ?_
    refine z_cmpB (r := false) want_none (by decide) rfl rfl rfl (iff_of_false Bool.false_ne_true (by omega)) ?_
    refine zl_nil ?_
    refine zk_seq ?_
    refine zc_false rfl ?_
    refine zc_exit ?_
    iterate 2 (refine zk_exit_then ?_)
    refine zk_exit_block ?_
    refine zk_seq ?_
    refine zc_seq ?_
    refine zc_region ?_
    refine zl_pureL rfl ?_
    refine zl_nil ?_
    refine zk_seq ?_
    refine zc_ret ?_
    exact zk_ret1 (.inr rfl) rfl rfl ⟨⟨true, rfl, fun _ => hall⟩, hC⟩
  obtain ⟨b', o, c', x, k, r, A', F, K, e1, hv, hN, hA, hF, hK⟩ := (h.no hC).at_ i hlt
  cases hv
  iterate 2 (refine zc_seq ?_)
  refine zc_region ?_
  iterate 2 (refine zl_pureL rfl ?_)
  refine z_len want_none (by decide) rfl ?_
  refine z_cmpB (r := true) want_none (by decide) rfl rfl rfl (iff_of_true rfl (by omega)) ?_
  refine zl_nil ?_
  refine zk_seq ?_
  refine zc_true rfl ?_
  refine zc_skip ?_
  refine zk_seq ?_
  refine zc_seq ?_
  refine zc_block ?_
  refine zc_seq ?_
  refine zc_region ?_
  iterate 2 (refine zl_pureL rfl ?_)
  refine z_ia want_none (by decide) rfl rfl (by omega) (by omega) ?_
  refine z_fa want_none (by decide) rfl ?_
  try refine z_load1 (by first | exact want_none | exact want_L rfl) (by decide) rfl (cell_at hN.c0 (by omega)) ?_
  refine zl_pureL rfl ?_
  refine zl_call (by first | exact want_none | exact want_L rfl) rfl (by decide) rfl (inW_calls x.name W hW) ?_
  rintro _ u2 ⟨⟨q, rfl, hq⟩, hC2⟩
  refine ⟨_, rfl, ?_⟩
  cases q
  · refine zl_pureL rfl ?_
    refine zl_nil ?_
    refine zk_seq ?_
    refine zc_true rfl ?_
    refine zc_seq ?_
    refine zc_region ?_
    refine zl_pureL rfl ?_
    refine zl_nil ?_
    refine zk_seq ?_
    refine zc_ret ?_
    refine zk_ret_block ?_
    iterate 2 (refine zk_ret_then ?_)
    refine zk_ret_block ?_
    refine zk_ret_then ?_
    exact zk_ret1 (.inr rfl) rfl rfl ⟨⟨false, rfl, fun h => by cases h⟩, hC.no hC2⟩
  · refine zl_pureL rfl ?_
    refine zl_nil ?_
    refine zk_seq ?_
    refine zc_false rfl ?_
    refine zc_skip ?_
    refine zk_norm_block ?_
    refine zk_seq ?_
    refine zc_region ?_
    refine zl_pureL rfl ?_
    refine z_add want_none (by decide) rfl rfl (by omega) (by omega) ?_
    refine zl_pureL rfl ?_
    refine zl_nil ?_
    exact zk_loopW (i + 1) ⟨by omega, fun j x' k' r' hj he => by
      rcases Nat.lt_or_ge j i with h1 | h1
      · exact hall j x' k' r' h1 he
      · obtain rfl : j = i := by omega
        rw [e1] at he; cases he; exact hq rfl, hC.no hC2⟩ (by omega) ⟨rfl, rfl, get_int rfl (by omega), trivial⟩
set_option maxHeartbeats 8000000 in
theorem deep_calls : ∀ (f : Nat) {w : World} {v : Value} (t : AT), t.size ≤ f → f ≤ big → TreeAt false w v t → Calls Try.prog 31 [v].toArray w fun e w' => (∃ d : Nat, e = .returned (.int .i64 d) ∧ d ≤ t.size) ∧ Chg w w' No := by
  have hbig : big = 1000000000000 := rfl
  intro f
  induction f with
  | zero =>
    intro w v t hs hf h
    cases t with
    | cons x k r => simp [AT.size] at hs
    | nil =>
      obtain ⟨A, c, rfl, hc⟩ := h.form
      refine calls_zc (n := 21) (f := 31) (fn := Try.f31) Try.func31 rfl rfl (by simp) ?_
      refine zc_seq ?_
      refine zc_region ?_
      refine zl_pureL rfl ?_
      refine zl_nil ?_
      refine zk_seq ?_
      refine zc_seq ?_
      refine zc_region ?_
      refine zl_pureL rfl ?_
      refine zl_nil ?_
      refine zk_seq ?_
      iterate 2 (refine zc_seq ?_)
      refine zc_region ?_
      refine zl_pureL rfl ?_
      refine zl_nil ?_
      refine zk_seq ?_
      refine zc_block ?_
      refine zc_loopW (ι := Nat) (fun i u => [(0, .slice A 0 c), (3, .int .i64 0), (4, .int .i64 0)]) (fun i u => u = w) (fun i u => 0) 0 rfl ⟨rfl, rfl, rfl, trivial⟩ ?_
      rintro i u rfl
      iterate 2 (refine zc_seq ?_)
      refine zc_region ?_
      iterate 2 (refine zl_pureL rfl ?_)
      refine z_len want_none (by decide) rfl ?_
      refine z_cmpB (r := false) want_none (by decide) rfl rfl rfl (iff_of_false Bool.false_ne_true (by omega)) ?_
      refine zl_nil ?_
      refine zk_seq ?_
      refine zc_false rfl ?_
      refine zc_exit ?_
      iterate 2 (refine zk_exit_then ?_)
      refine zk_exit_block ?_
      refine zk_seq ?_
      refine zc_seq ?_
      refine zc_region ?_
      iterate 2 (refine zl_pureL rfl ?_)
      refine zl_nil ?_
      refine zk_seq ?_
      refine zc_ret ?_
      exact zk_ret1 (.inr rfl) rfl rfl ⟨⟨0, rfl, Nat.zero_le _⟩, Chg.refl _ _⟩
  | succ f ih' =>
    intro w v t hs hf h
    have ih : ∀ (t : AT), t.size ≤ f → ∀ {w : World} {v : Value}, TreeAt false w v t → Calls Try.prog 31 [v].toArray w fun e w' => (∃ d : Nat, e = .returned (.int .i64 d) ∧ d ≤ t.size) ∧ Chg w w' No := fun t ht w v h => ih' t ht (by omega) h
    obtain ⟨A, c, rfl, hc⟩ := h.form
    have hls := t.len_size
    refine calls_zc (n := 21) (f := 31) (fn := Try.f31) Try.func31 rfl rfl (by simp) ?_
    refine zc_seq ?_
    refine zc_region ?_
    refine zl_pureL rfl ?_
    refine zl_nil ?_
    refine zk_seq ?_
    refine zc_seq ?_
    refine zc_region ?_
    refine zl_pureL rfl ?_
    refine zl_nil ?_
    refine zk_seq ?_
    iterate 2 (refine zc_seq ?_)
    refine zc_region ?_
    refine zl_pureL rfl ?_
    refine zl_nil ?_
    refine zk_seq ?_
    refine zc_block ?_
    refine zc_loopW (ι := Nat × Nat) (fun q u => [(0, .slice A t.len c), (3, .int .i64 (q.2 : Nat)), (4, .int .i64 (q.1 : Nat))]) (fun q u => q.1 ≤ t.len ∧ q.2 ≤ t.size ∧ Chg w u No) (fun q u => t.len - q.1) (0, 0) ⟨Nat.zero_le _, Nat.zero_le _, Chg.refl _ _⟩ ⟨rfl, rfl, rfl, trivial⟩ ?_
    rintro ⟨i, m⟩ u ⟨hi, hm, hC⟩
    dsimp only at hi hm ⊢
    by_cases hlt : i < t.len
    rotate_left
    · iterate 2 (refine zc_seq ?_)
      refine zc_region ?_
      iterate 2 (refine zl_pureL rfl ?_)
      refine z_len want_none (by decide) rfl ?_
      refine z_cmpB (r := false) want_none (by decide) rfl rfl rfl (iff_of_false Bool.false_ne_true (by omega)) ?_
      refine zl_nil ?_
      refine zk_seq ?_
      refine zc_false rfl ?_
      refine zc_exit ?_
      iterate 2 (refine zk_exit_then ?_)
      refine zk_exit_block ?_
      refine zk_seq ?_
      refine zc_seq ?_
      refine zc_region ?_
      iterate 2 (refine zl_pureL rfl ?_)
      refine zl_nil ?_
      refine zk_seq ?_
      refine zc_ret ?_
      exact zk_ret1 (.inr rfl) rfl rfl ⟨⟨m, rfl, hm⟩, hC⟩
    obtain ⟨b', o, c', x, k, r, A', F, K, e1, hv, hN, hA, hF, hK⟩ := (h.no hC).at_ i hlt
    cases hv
    have hsz := t.drop_size i
    rw [e1] at hsz
    simp only [AT.size] at hsz
    obtain ⟨A4, c4, rfl, _⟩ := hK.form
    iterate 2 (refine zc_seq ?_)
    refine zc_region ?_
    iterate 2 (refine zl_pureL rfl ?_)
    refine z_len want_none (by decide) rfl ?_
    refine z_cmpB (r := true) want_none (by decide) rfl rfl rfl (iff_of_true rfl (by omega)) ?_
    refine zl_nil ?_
    refine zk_seq ?_
    refine zc_true rfl ?_
    refine zc_skip ?_
    refine zk_seq ?_
    refine zc_seq ?_
    refine zc_block ?_
    refine zc_region ?_
    iterate 3 (refine zl_pureL rfl ?_)
    refine z_ia want_none (by decide) rfl rfl (by omega) (by omega) ?_
    refine z_fa want_none (by decide) rfl ?_
    try refine z_load1 (by first | exact want_none | exact want_L rfl) (by decide) rfl (cell_at hN.c4 (by omega)) ?_
    skip
    refine zl_call (by first | exact want_none | exact want_L rfl) rfl (by decide) rfl (ih k (by omega) hK) ?_
    rintro _ u2 ⟨⟨d, rfl, hd⟩, hC2⟩
    refine ⟨_, rfl, ?_⟩
    repeat' (first | (show ZL _ _ _ _ _ _ _; first | (show ZL _ _ _ [] _ _ _; refine zl_nil ?_) | refine a_pure ?_ | refine a_skip ?_ | (show ZL _ _ _ (⟨_, (.load _ _), _, _, _, _⟩ :: _) _ _ _; first | refine a_loadB rfl ?_ | refine a_load1 rfl ?_ | refine a_loadAB rfl ?_) | (show ZL _ _ _ (⟨_, (.call _), _, _, _, _⟩ :: _) _ _ _; first | refine a_len rfl ?_ | refine a_lenL rfl ?_ | refine a_min rfl rfl fun _ _ _ _ => ?_ | refine a_max rfl rfl fun _ _ _ _ => ?_) | (show ZL _ _ _ (⟨_, (.binOp .add _ _ _ _), _, _, _, _⟩ :: _) _ _ _; first | refine a_catW rfl rfl fun _ _ => ?_ | refine a_add rfl rfl ?_ | refine a_add8 rfl rfl ?_ | refine a_addW rfl rfl fun _ _ => ?_) | (show ZL _ _ _ (⟨_, (.binOp .sub _ _ _ _), _, _, _, _⟩ :: _) _ _ _; first | refine a_sub rfl rfl ?_ | refine a_subW rfl rfl fun _ _ => ?_) | (show ZL _ _ _ (⟨_, (.fieldAddr _ _ _), _, _, _, _⟩ :: _) _ _ _; refine a_fa rfl ?_) | (show ZL _ _ _ (⟨_, (.indexAddr _ _ _), _, _, _, _⟩ :: _) _ _ _; refine a_ia rfl rfl ?_) | (show ZL _ _ _ (⟨_, (.slice _ _ _ _ _), _, _, _, _⟩ :: _) _ _ _; refine a_cutW rfl rfl rfl fun _ _ => ?_) | (show ZL _ _ _ (⟨_, (.index _ _ _), _, _, _, _⟩ :: _) _ _ _; refine a_idxW rfl rfl fun _ _ => ?_) | (show ZL _ _ _ (⟨_, (.convert _ _ _), _, _, _, _⟩ :: _) _ _ _; refine a_conv rfl ?_) | (show ZL _ _ _ (⟨_, (.binOp _ _ _ _ _), _, _, _, _⟩ :: _) _ _ _; first | refine a_cmpT rfl rfl rfl ?_ | refine a_cmpF rfl rfl rfl ?_ | refine a_shr rfl rfl fun _ _ => ?_ | refine a_and rfl rfl fun _ _ => ?_ | refine a_mul rfl rfl ?_) | (show ZL _ _ _ (⟨_, (.binOp _ _ _ _ _), _, _, _, _⟩ :: _) _ _ _; first | refine a_cmp rfl rfl rfl (fun _ => ?_) fun _ => ?_ | refine a_eq rfl rfl (fun _ => ?_) fun _ => ?_ | refine a_ne rfl rfl (fun _ => ?_) fun _ => ?_)) | (show ZC _ _ _ _ _ _; first | refine zc_seq ?_ | refine zc_region ?_ | refine zc_block ?_ | refine zc_skip ?_ | refine zc_exit ?_ | refine zc_ret ?_ | refine zc_true rfl ?_ | refine zc_false rfl ?_) | (show ZK _ _ _ _ _; first | refine zk_seq ?_ | refine zk_exit_then ?_ | refine zk_ret_then ?_ | refine zk_ret_block ?_ | refine zk_norm_block ?_ | refine zk_exit_block ?_ | refine zk_exit_block' rfl ?_))
    rename_i z h1 h2 h3
    obtain ⟨y, hy⟩ := Int.eq_ofNat_of_zero_le (show 0 ≤ z by omega)
    subst hy
    exact zk_loopW (i + 1, y) ⟨by dsimp only; omega, by dsimp only; omega, hC.no hC2⟩ (by dsimp only; omega) ⟨rfl, rfl, get_int rfl (by dsimp only; omega), trivial⟩
end Go.Proofs.Ytbcmiijollpgeaa.T
