import Derived.Test.YtmhbdalemgmfcaaTLaw0
/- TextPlain: the plain law, the walk. -/
namespace Go.Proofs.Ytmhbdalemgmfcaa.T
open Go Go.Z Go.Proofs
set_option linter.unusedVariables false
def clean (x : List UInt8) : Prop := ∀ c ∈ x, blankN c.toNat = false
theorem words_clean : ∀ (r cur : List UInt8), clean cur → ∀ x ∈ wordsN cur r, x ≠ [] ∧ clean x
  | [], cur, hc, x, hx => by
    unfold wordsN at hx
    split at hx
    · cases hx
    · rename_i h; simp only [List.mem_singleton] at hx; subst hx; exact ⟨h, hc⟩
  | c :: r, cur, hc, x, hx => by
    unfold wordsN at hx
    have hn : clean [] := fun _ h => by cases h
    split at hx
    · split at hx
      · exact words_clean r [] hn x hx
      · rename_i h
        rcases List.mem_cons.1 hx with rfl | hx
        · exact ⟨h, hc⟩
        · exact words_clean r [] hn x hx
    · rename_i hb
      refine words_clean r (cur ++ [c]) (fun d hd => ?_) x hx
      rcases List.mem_append.1 hd with h | h
      · exact hc d h
      · simp only [List.mem_singleton] at h; subst h; simpa using hb
theorem words_app : ∀ (x cur r : List UInt8), clean x → wordsN cur (x ++ r) = wordsN (cur ++ x) r
  | [], cur, r, _ => by simp
  | c :: x, cur, r, h => by
    have hc : ¬ blankN c.toNat = true := by rw [h c (List.mem_cons_self ..)]; exact Bool.false_ne_true
    rw [List.cons_append]
    show (if blankN c.toNat = true then _ else wordsN (cur ++ [c]) (x ++ r)) = _
    rw [if_neg hc, words_app x (cur ++ [c]) r (fun d hd => h d (List.mem_cons_of_mem _ hd))]
    simp
theorem words_tail : ∀ (ws : List (List UInt8)) (cur : List UInt8), cur ≠ [] → (∀ x ∈ ws, x ≠ [] ∧ clean x) → wordsN cur (Lib.joinTail [32] ws) = cur :: ws
  | [], cur, hc, _ => by
    show (if cur = [] then [] else [cur]) = _
    rw [if_neg hc]
  | y :: ws, cur, hc, h => by
    have hy := h y (List.mem_cons_self ..)
    have e : Lib.joinTail [32] (y :: ws) = 32 :: (y ++ Lib.joinTail [32] ws) := by simp [Lib.joinTail]
    rw [e]
    show (if blankN (32 : UInt8).toNat = true then (if cur = [] then _ else cur :: wordsN [] (y ++ Lib.joinTail [32] ws)) else _) = _
    rw [if_pos (by decide), if_neg hc, words_app y [] _ hy.2, List.nil_append, words_tail ws y hy.1 (fun x hx => h x (List.mem_cons_of_mem _ hx))]
theorem words_join (ws : List (List UInt8)) (h : ∀ x ∈ ws, x ≠ [] ∧ clean x) : wordsN [] (Lib.join ws [32]) = ws := by
  cases ws with
  | nil => rfl
  | cons x ws =>
    have hx := h x (List.mem_cons_self ..)
    rw [Lib.join_cons, words_app x [] _ hx.2, List.nil_append, words_tail ws x hx.1 (fun y hy => h y (List.mem_cons_of_mem _ hy))]
def bl (c : UInt8) : Bool := blankN c.toNat
def countB (l : List UInt8) : Nat := (l.filter bl).length
theorem count_clean {x : List UInt8} (h : clean x) : countB x = 0 := by
  unfold countB
  rw [List.filter_eq_nil_iff.2 (fun c hc => by show ¬ blankN c.toNat = true; rw [h c hc]; exact Bool.false_ne_true)]; rfl
theorem count_app (l r : List UInt8) : countB (l ++ r) = countB l + countB r := by simp [countB]
theorem count_tail : ∀ ws : List (List UInt8), (∀ x ∈ ws, x ≠ [] ∧ clean x) → countB (Lib.joinTail [32] ws) = ws.length
  | [], _ => rfl
  | y :: ws, h => by
    have e : Lib.joinTail [32] (y :: ws) = [32] ++ (y ++ Lib.joinTail [32] ws) := by simp [Lib.joinTail]
    rw [e, count_app, count_app, count_clean (h y (List.mem_cons_self ..)).2, count_tail ws (fun x hx => h x (List.mem_cons_of_mem _ hx))]
    have : countB [32] = 1 := by decide
    rw [this]; simp; omega
theorem count_join (ws : List (List UInt8)) (h : ∀ x ∈ ws, x ≠ [] ∧ clean x) : countB (Lib.join ws [32]) = ws.length - 1 := by
  cases ws with
  | nil => rfl
  | cons x ws => rw [Lib.join_cons, count_app, count_clean (h x (List.mem_cons_self ..)).2, count_tail ws (fun y hy => h y (List.mem_cons_of_mem _ hy))]; simp
theorem join_last : ∀ ws : List (List UInt8), ws ≠ [] → (∀ x ∈ ws, x ≠ [] ∧ clean x) → ∃ q c, Lib.join ws [32] = q ++ [c] ∧ blankN c.toNat = false := by
  intro ws hw h
  rcases List.eq_nil_or_concat ws with rfl | ⟨init, x, rfl⟩
  · exact absurd rfl hw
  · obtain ⟨hx, hc⟩ := h x (by simp)
    rcases List.eq_nil_or_concat x with rfl | ⟨q, c, rfl⟩
    · exact absurd rfl hx
    · have hcb := hc c (by simp)
      by_cases hi : init = []
      · subst hi
        refine ⟨q, c, ?_, hcb⟩
        simp [Lib.join_one]
      · refine ⟨Lib.join init [32] ++ [32] ++ q, c, ?_, hcb⟩
        rw [List.concat_eq_append, join_snoc _ _ _ hi]; simp
theorem join_trim (ws : List (List UInt8)) (h : ∀ x ∈ ws, x ≠ [] ∧ clean x) : trimN (Lib.join ws [32]) = Lib.join ws [32] := by
  cases ws with
  | nil => rfl
  | cons x ws =>
    have hl : ltrim (Lib.join (x :: ws) [32]) = Lib.join (x :: ws) [32] := by
      obtain ⟨hx, hc⟩ := h x (List.mem_cons_self ..)
      rw [Lib.join_cons]
      cases x with
      | nil => exact absurd rfl hx
      | cons c x =>
        rw [List.cons_append]
        show (if blankN c.toNat = true then _ else _) = _
        rw [if_neg (by rw [hc c (List.mem_cons_self ..)]; exact Bool.false_ne_true)]
    obtain ⟨q, c, hq, hcb⟩ := join_last (x :: ws) (by simp) h
    unfold trimN
    rw [hl, hq]
    have hlen : (q ++ [c]).length = q.length + 1 := by simp
    have hby : byteL (q ++ [c]) q.length = c.toNat := by simp [byteL, List.getD_eq_getElem?_getD]
    rw [hlen]
    unfold rtrimN
    rw [hby, hcb, if_neg Bool.false_ne_true, List.take_of_length_le (Nat.le_of_eq hlen)]
theorem count_take (l : List UInt8) (i : Nat) (h : i < l.length) : countB (l.take (i + 1)) = countB (l.take i) + (if blankN (byteL l i) = true then 1 else 0) := by
  rw [take_getD 0 h, count_app]
  congr 1
  show ((([l.getD i 0] : List UInt8).filter bl).length) = _
  have e : bl (l.getD i 0) = blankN (byteL l i) := rfl
  rw [List.filter_cons, e]
  split <;> rfl
set_option maxHeartbeats 2000000 in
theorem TextPlain_walk (a : ByteArray) (w : World) : Calls Try.prog 8 #[.string a] w fun e w' => e = .returned (.bool true) ∧ RowKit.Below w.heap.size w w' := by
  obtain ⟨l, rfl⟩ := bs_ex a
  show Calls Try.prog 8 [Value.string (bs l)].toArray w _
  refine calls_zc (n := 52) (f := 8) (fn := Try.f8) Try.func8 rfl rfl (by simp) ?_
  refine zc_seq ?_
  refine zc_region ?_
  refine zl_pureL rfl ?_
  refine zl_nil ?_
  refine zk_seq ?_
  iterate 2 (refine zc_seq ?_)
  refine zc_region ?_
  refine zl_call (by first | exact want_none | exact want_L rfl) rfl (by decide) rfl known_calls ?_
  rintro _ w1 ⟨rfl, hC1⟩
  refine ⟨_, rfl, ?_⟩
  by_cases hl : l.length > 3000
  · refine zl_pureL rfl ?_
    refine zl_nil ?_
    refine zk_seq ?_
    refine zc_false rfl ?_
    refine zc_skip ?_
    refine zk_seq ?_
    iterate 2 (refine zc_seq ?_)
    refine zc_region ?_
    refine zl_pureL rfl ?_
    refine z_lenL want_none (by decide) rfl ?_
    refine z_cmpB (r := true) want_none (by decide) rfl rfl rfl (iff_of_true rfl (by omega)) ?_
    refine zl_nil ?_
    refine zk_seq ?_
    refine zc_true rfl ?_
    refine zc_seq ?_
    refine zc_region ?_
    refine zl_pureL rfl ?_
    refine zl_nil ?_
    refine zk_seq ?_
    refine zc_ret ?_
    refine zk_ret_then ?_
    exact zk_ret1 (.inr rfl) rfl rfl ⟨rfl, hC1.below⟩
  obtain ⟨hj, hwl⟩ := words_sum l []
  simp only [List.length_nil, Nat.zero_add] at hj hwl
  have hwc := words_clean l [] (fun _ h => by cases h)
  have hpp : plainN (plainN l) = plainN l := by unfold plainN; rw [words_join _ hwc]
  have hwp : wordsN [] (plainN l) = wordsN [] l := by unfold plainN; rw [words_join _ hwc]
  have hcp : countB (plainN l) = (wordsN [] l).length - 1 := count_join _ hwc
  have htp : trimN (plainN l) = plainN l := join_trim _ hwc
  have hpl : (plainN l).length ≤ 3000 := by unfold plainN; omega
  refine zl_pureL rfl ?_
  refine zl_nil ?_
  refine zk_seq ?_
  refine zc_false rfl ?_
  refine zc_skip ?_
  refine zk_seq ?_
  iterate 2 (refine zc_seq ?_)
  refine zc_region ?_
  refine zl_pureL rfl ?_
  refine z_lenL want_none (by decide) rfl ?_
  refine z_cmpB (r := false) want_none (by decide) rfl rfl rfl (iff_of_false Bool.false_ne_true (by omega)) ?_
  refine zl_nil ?_
  refine zk_seq ?_
  refine zc_false rfl ?_
  refine zc_skip ?_
  refine zk_seq ?_
  refine zc_seq ?_
  refine zc_region ?_
  refine zl_pureL rfl ?_
  refine zl_call (by first | exact want_none | exact want_L rfl) rfl (by decide) rfl (plain_calls (l := l) (by omega)) ?_
  rintro _ w2 ⟨rfl, hC2⟩
  refine ⟨_, rfl, ?_⟩
  refine zl_pureL rfl ?_
  refine zl_nil ?_
  refine zk_seq ?_
  refine zc_seq ?_
  refine zc_region ?_
  refine zl_pureL rfl ?_
  refine zl_nil ?_
  refine zk_seq ?_
  iterate 2 (refine zc_seq ?_)
  refine zc_region ?_
  refine zl_pureL rfl ?_
  refine zl_nil ?_
  refine zk_seq ?_
  refine zc_block ?_
  refine zc_midB (fun u => u = w2) [(0, .string (bs l)), (3, .string (bs (plainN l))), (4, .int .i64 (countB (plainN l)))] ?_ ?_
  · refine zc_loop (ι := Nat) (fun i => [(0, .string (bs l)), (3, .string (bs (plainN l))), (4, .int .i64 (countB ((plainN l).take i))), (5, .int .i64 i)]) (fun _ => w2) (fun i => i ≤ (plainN l).length) (fun i => (plainN l).length - i) 0 (Nat.zero_le _) ?_ ?_ ?_
    · rfl
    · exact ⟨rfl, rfl, rfl, rfl, trivial⟩
    intro i hi
    by_cases hlt : i < (plainN l).length
    · have hct := count_take (plainN l) i hlt
      have hcl : countB ((plainN l).take i) ≤ i := by
        unfold countB
        exact Nat.le_trans (List.length_filter_le _ _) (by rw [List.length_take]; omega)
      iterate 2 (refine zc_seq ?_)
      refine zc_region ?_
      iterate 2 (refine zl_pureL rfl ?_)
      refine z_lenL want_none (by decide) rfl ?_
      refine z_cmpB (r := true) want_none (by decide) rfl rfl rfl (iff_of_true rfl (by omega)) ?_
      refine zl_nil ?_
      refine zk_seq ?_
      refine zc_true rfl ?_
      refine zc_skip ?_
      refine zk_seq ?_
      refine zc_seq ?_
      refine zc_block ?_
      refine zc_seq ?_
      refine zc_region ?_
      iterate 2 (refine zl_pureL rfl ?_)
      refine z_idxN want_none (by decide) rfl rfl (by omega) ?_
      refine zl_call (by first | exact want_none | exact want_L rfl) rfl (by decide) rfl (blankR_calls (byteL (plainN l) i)) ?_
      rintro _ w3 ⟨rfl, rfl⟩
      refine ⟨_, rfl, ?_⟩
      cases hb : blankN (byteL (plainN l) i)
      · rw [hb, if_neg Bool.false_ne_true] at hct
        refine zl_nil ?_
        refine zk_seq ?_
        refine zc_false rfl ?_
        refine zc_skip ?_
        refine zk_norm_block ?_
        refine zk_seq ?_
        refine zc_region ?_
        refine zl_pureL rfl ?_
        refine z_add want_none (by decide) rfl rfl (by omega) (by omega) ?_
        refine zl_pureL rfl ?_
        refine zl_nil ?_
        exact zk_loop (i + 1) (by omega) (by omega) rfl ⟨rfl, rfl, get_int rfl (by omega), get_int rfl (by simp), trivial⟩
      · rw [hb, if_pos rfl] at hct
        refine zl_nil ?_
        refine zk_seq ?_
        refine zc_true rfl ?_
        refine zc_region ?_
        refine zl_pureL rfl ?_
        refine z_add want_none (by decide) rfl rfl (by omega) (by omega) ?_
        refine zl_pureL rfl ?_
        refine zl_nil ?_
        refine zk_norm_block ?_
        refine zk_seq ?_
        refine zc_region ?_
        refine zl_pureL rfl ?_
        refine z_add want_none (by decide) rfl rfl (by omega) (by omega) ?_
        refine zl_pureL rfl ?_
        refine zl_nil ?_
        exact zk_loop (i + 1) (by omega) (by omega) rfl ⟨rfl, rfl, get_int rfl (by omega), get_int rfl (by simp), trivial⟩
    · obtain rfl : i = (plainN l).length := by omega
      rw [List.take_length]
      iterate 2 (refine zc_seq ?_)
      refine zc_region ?_
      iterate 2 (refine zl_pureL rfl ?_)
      refine z_lenL want_none (by decide) rfl ?_
      refine z_cmpB (r := false) want_none (by decide) rfl rfl rfl (iff_of_false Bool.false_ne_true (by omega)) ?_
      refine zl_nil ?_
      refine zk_seq ?_
      refine zc_false rfl ?_
      refine zc_exit ?_
      iterate 2 (refine zk_exit_then ?_)
      refine zk_exit_block ?_
      exact zk_mid rfl ⟨rfl, rfl, rfl, trivial⟩
  rintro u rfl
  rw [hcp]
  refine zc_seq ?_
  refine zc_region ?_
  refine zl_pureL rfl ?_
  refine zl_call (by first | exact want_none | exact want_L rfl) rfl (by decide) rfl (words_calls (l := l) (by omega)) ?_
  rintro _ w3 ⟨v3, rfl, hO3, hC3⟩
  refine ⟨_, rfl, ?_⟩
  obtain ⟨A3, c3, hv3, hc3⟩ := hO3.rd.form
  subst hv3
  refine zl_pureL rfl ?_
  refine zl_nil ?_
  refine zk_seq ?_
  refine zc_seq ?_
  refine zc_region ?_
  refine zl_pureL rfl ?_
  refine zl_call (by first | exact want_none | exact want_L rfl) rfl (by decide) rfl (plain_calls (l := plainN l) (by omega)) ?_
  rintro _ w4 ⟨rfl, hC4⟩
  refine ⟨_, rfl, ?_⟩
  rw [hpp]
  refine zl_pureL rfl ?_
  refine z_eqLB (q := true) (by first | exact want_none | exact want_L rfl) (by decide) rfl rfl (iff_of_true rfl rfl) ?_
  iterate 2 (refine zl_pureL rfl ?_)
  refine zl_call (by first | exact want_none | exact want_L rfl) rfl (by decide) rfl (words_calls (l := plainN l) (by omega)) ?_
  rintro _ w5 ⟨v5, rfl, hO5, hC5⟩
  refine ⟨_, rfl, ?_⟩
  rw [hwp] at hO5
  refine zl_pureL rfl ?_
  refine zl_call (by first | exact want_none | exact want_L rfl) rfl (by decide) rfl (same_calls hO5.rd ((hO3.no hC4).no hC5).rd (by omega) (by omega)) ?_
  rintro _ w6 ⟨rfl, hC6⟩
  refine ⟨_, rfl, ?_⟩
  rw [decide_eq_true rfl]
  iterate 4 (refine zl_pureL rfl ?_)
  refine z_len (want_L rfl) (by decide) rfl ?_
  refine z_sub (want_L rfl) (by decide) rfl rfl (by omega) (by omega) ?_
  refine zl_run (by first | exact want_none | exact want_L rfl) rfl (by decide) (r_max rfl rfl (c := (((wordsN [] l).length - 1 : Nat) : Int)) (by split <;> omega)) ?_
  refine z_cmpB (r := true) (want_L rfl) (by decide) rfl rfl rfl (iff_of_true rfl (by omega)) ?_
  iterate 3 (refine zl_pureL rfl ?_)
  refine zl_call (by first | exact want_none | exact want_L rfl) rfl (by decide) rfl (trim_calls (l := plainN l) (by omega)) ?_
  rintro _ w7 ⟨rfl, rfl⟩
  refine ⟨_, rfl, ?_⟩
  rw [htp]
  refine zl_pureL rfl ?_
  refine z_eqLB (q := true) (by first | exact want_none | exact want_L rfl) (by decide) rfl rfl (iff_of_true rfl rfl) ?_
  iterate 2 (refine zl_pureL rfl ?_)
  refine zl_nil ?_
  refine zk_seq ?_
  refine zc_ret ?_
  exact zk_ret1 (.inr rfl) rfl rfl ⟨rfl, (((((hC1.no hC2).no hC3).no hC4).no hC5).no hC6).below⟩
end Go.Proofs.Ytmhbdalemgmfcaa.T
