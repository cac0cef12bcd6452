import Derived.Test.YtbcmiijollpgeaaPKn
/- The document's words. -/
namespace Go.Proofs.Ytbcmiijollpgeaa.T
open Go Go.Z Go.Proofs
set_option linter.unusedVariables false
def blankN (c : Nat) : Bool := decide (c = 9 ∨ c = 10 ∨ c = 12 ∨ c = 13 ∨ c = 32)
theorem blankR_calls {w : World} (c : Nat) : Calls Try.prog 38 [.int .u8 c].toArray w fun e w' => e = .returned (.bool (blankN c)) ∧ w' = w := by
  unfold blankN
  refine calls_zc (n := 21) (f := 38) (fn := Try.f38) Try.func38 rfl rfl (by simp) ?_
  refine zc_seq ?_
  refine zc_region ?_
  refine zl_pureL rfl ?_
  refine zl_nil ?_
  refine zk_seq ?_
  refine zc_seq ?_
  refine zc_region ?_
  refine zl_pureL rfl ?_
  by_cases h : c = 9 ∨ c = 10 ∨ c = 12 ∨ c = 13 ∨ c = 32
  · rw [decide_eq_true h]
    rcases h with rfl | rfl | rfl | rfl | rfl
    · refine z_cmpB (r := true) want_none (by decide) rfl rfl rfl (iff_of_true rfl (by omega)) ?_
      iterate 2 (refine zl_pureL rfl ?_)
      refine zl_skip rfl ?_
      iterate 3 (refine zl_pureL rfl ?_)
      refine zl_skip rfl ?_
      iterate 3 (refine zl_pureL rfl ?_)
      refine zl_skip rfl ?_
      iterate 3 (refine zl_pureL rfl ?_)
      refine zl_skip rfl ?_
      iterate 2 (refine zl_pureL rfl ?_)
      refine zl_nil ?_
      refine zk_seq ?_
      refine zc_ret ?_
      exact zk_ret1 (.inr rfl) rfl rfl ⟨rfl, rfl⟩
    · refine z_cmpB (r := false) want_none (by decide) rfl rfl rfl (iff_of_false Bool.false_ne_true (by omega)) ?_
      iterate 2 (refine zl_pureL rfl ?_)
      refine z_cmpB (r := true) (want_L rfl) (by decide) rfl rfl rfl (iff_of_true rfl (by omega)) ?_
      iterate 3 (refine zl_pureL rfl ?_)
      refine zl_skip rfl ?_
      iterate 3 (refine zl_pureL rfl ?_)
      refine zl_skip rfl ?_
      iterate 3 (refine zl_pureL rfl ?_)
      refine zl_skip rfl ?_
      iterate 2 (refine zl_pureL rfl ?_)
      refine zl_nil ?_
      refine zk_seq ?_
      refine zc_ret ?_
      exact zk_ret1 (.inr rfl) rfl rfl ⟨rfl, rfl⟩
    · refine z_cmpB (r := false) want_none (by decide) rfl rfl rfl (iff_of_false Bool.false_ne_true (by omega)) ?_
      iterate 2 (refine zl_pureL rfl ?_)
      refine z_cmpB (r := false) (want_L rfl) (by decide) rfl rfl rfl (iff_of_false Bool.false_ne_true (by omega)) ?_
      iterate 3 (refine zl_pureL rfl ?_)
      refine z_cmpB (r := true) (want_L rfl) (by decide) rfl rfl rfl (iff_of_true rfl (by omega)) ?_
      iterate 3 (refine zl_pureL rfl ?_)
      refine zl_skip rfl ?_
      iterate 3 (refine zl_pureL rfl ?_)
      refine zl_skip rfl ?_
      iterate 2 (refine zl_pureL rfl ?_)
      refine zl_nil ?_
      refine zk_seq ?_
      refine zc_ret ?_
      exact zk_ret1 (.inr rfl) rfl rfl ⟨rfl, rfl⟩
    · refine z_cmpB (r := false) want_none (by decide) rfl rfl rfl (iff_of_false Bool.false_ne_true (by omega)) ?_
      iterate 2 (refine zl_pureL rfl ?_)
      refine z_cmpB (r := false) (want_L rfl) (by decide) rfl rfl rfl (iff_of_false Bool.false_ne_true (by omega)) ?_
      iterate 3 (refine zl_pureL rfl ?_)
      refine z_cmpB (r := false) (want_L rfl) (by decide) rfl rfl rfl (iff_of_false Bool.false_ne_true (by omega)) ?_
      iterate 3 (refine zl_pureL rfl ?_)
      refine z_cmpB (r := true) (want_L rfl) (by decide) rfl rfl rfl (iff_of_true rfl (by omega)) ?_
      iterate 3 (refine zl_pureL rfl ?_)
      refine zl_skip rfl ?_
      iterate 2 (refine zl_pureL rfl ?_)
      refine zl_nil ?_
      refine zk_seq ?_
      refine zc_ret ?_
      exact zk_ret1 (.inr rfl) rfl rfl ⟨rfl, rfl⟩
    · refine z_cmpB (r := false) want_none (by decide) rfl rfl rfl (iff_of_false Bool.false_ne_true (by omega)) ?_
      iterate 2 (refine zl_pureL rfl ?_)
      refine z_cmpB (r := false) (want_L rfl) (by decide) rfl rfl rfl (iff_of_false Bool.false_ne_true (by omega)) ?_
      iterate 3 (refine zl_pureL rfl ?_)
      refine z_cmpB (r := false) (want_L rfl) (by decide) rfl rfl rfl (iff_of_false Bool.false_ne_true (by omega)) ?_
      iterate 3 (refine zl_pureL rfl ?_)
      refine z_cmpB (r := false) (want_L rfl) (by decide) rfl rfl rfl (iff_of_false Bool.false_ne_true (by omega)) ?_
      iterate 3 (refine zl_pureL rfl ?_)
      refine z_cmpB (r := true) (want_L rfl) (by decide) rfl rfl rfl (iff_of_true rfl (by omega)) ?_
      iterate 2 (refine zl_pureL rfl ?_)
      refine zl_nil ?_
      refine zk_seq ?_
      refine zc_ret ?_
      exact zk_ret1 (.inr rfl) rfl rfl ⟨rfl, rfl⟩
  · rw [decide_eq_false h]
    refine z_cmpB (r := false) want_none (by decide) rfl rfl rfl (iff_of_false Bool.false_ne_true (by omega)) ?_
    iterate 2 (refine zl_pureL rfl ?_)
    refine z_cmpB (r := false) (want_L rfl) (by decide) rfl rfl rfl (iff_of_false Bool.false_ne_true (by omega)) ?_
    iterate 3 (refine zl_pureL rfl ?_)
    refine z_cmpB (r := false) (want_L rfl) (by decide) rfl rfl rfl (iff_of_false Bool.false_ne_true (by omega)) ?_
    iterate 3 (refine zl_pureL rfl ?_)
    refine z_cmpB (r := false) (want_L rfl) (by decide) rfl rfl rfl (iff_of_false Bool.false_ne_true (by omega)) ?_
    iterate 3 (refine zl_pureL rfl ?_)
    refine z_cmpB (r := false) (want_L rfl) (by decide) rfl rfl rfl (iff_of_false Bool.false_ne_true (by omega)) ?_
    iterate 2 (refine zl_pureL rfl ?_)
    refine zl_nil ?_
    refine zk_seq ?_
    refine zc_ret ?_
    exact zk_ret1 (.inr rfl) rfl rfl ⟨rfl, rfl⟩
def wordsN (cur : List UInt8) : List UInt8 → List (List UInt8)
  | [] => if cur = [] then [] else [cur]
  | c :: r => if blankN c.toNat = true then (if cur = [] then wordsN [] r else cur :: wordsN [] r) else wordsN (cur ++ [c]) r
def cellsS (ss : List (List UInt8)) : List Value := ss.map fun l => .string (bs l)
theorem cellsS_len (ss : List (List UInt8)) : (cellsS ss).length = ss.length := by simp [cellsS]
theorem cellsS_app (l r : List (List UInt8)) : cellsS (l ++ r) = cellsS l ++ cellsS r := by simp [cellsS]
theorem cellsS_one (ss : List (List UInt8)) : ∀ u ∈ cellsS ss, u.oneCell' = true := by
  intro u hu
  simp only [cellsS, List.mem_map] at hu
  obtain ⟨b, _, rfl⟩ := hu
  rfl
theorem cellsS_at (ss : List (List UInt8)) (i : Nat) (h : i < ss.length) : (cellsS ss)[i]? = some (.string (bs (ss.getD i []))) := by
  simp [cellsS, List.getD_eq_getElem?_getD, List.getElem?_eq_getElem h]
theorem rowge {v v' : Value} {B n : Nat} (hv : ∀ k, v.ownBlock = some k → B ≤ k) (hr : v'.ownBlock = v.ownBlock ∨ ∃ k, v'.ownBlock = some k ∧ n ≤ k) (hn : B ≤ n) : ∀ k, v'.ownBlock = some k → B ≤ k := fun k hk => by
  rcases hr with h1 | ⟨q, h1, h2⟩
  · exact hv k (h1 ▸ hk)
  · rw [hk] at h1; cases h1; omega
set_option maxHeartbeats 4000000 in
theorem wordsR_calls {w : World} {l : List UInt8} (hl : l.length ≤ 100000) : Calls Try.prog 23 [.string (bs l)].toArray w fun e w' => ∃ v, e = .returned v ∧ Own w' 9 1 v (wordsN [] l).length (cellsS (wordsN [] l)) ∧ Chg w w' No := by
  refine calls_zc (n := 36) (f := 23) (fn := Try.f23) Try.func23 rfl rfl (by simp) ?_
  refine zc_seq ?_
  refine zc_region ?_
  refine zl_pureL rfl ?_
  refine zl_nil ?_
  refine zk_seq ?_
  refine zc_seq ?_
  refine zc_region ?_
  refine zl_pureL rfl ?_
  refine zl_nil ?_
  refine zk_seq ?_
  refine zc_seq ?_
  refine zc_region ?_
  refine zl_pureL rfl ?_
  refine zl_nil ?_
  refine zk_seq ?_
  iterate 2 (refine zc_seq ?_)
  refine zc_region ?_
  refine zl_pureL rfl ?_
  refine zl_nil ?_
  refine zk_seq ?_
  refine zc_block ?_
  refine zc_loopW (ι := Nat × Nat × Value × List (List UInt8)) (fun q u => [(0, .string (bs l)), (3, q.2.2.1), (4, .int .i64 q.2.1), (5, .int .i64 q.1)])
    (fun q u => q.1 ≤ l.length + 1 ∧ q.2.1 ≤ q.1 ∧ Chg w u No ∧ Own u 9 1 q.2.2.1 q.2.2.2.length (cellsS q.2.2.2) ∧ (∀ k, q.2.2.1.ownBlock = some k → w.heap.size ≤ k) ∧ q.2.2.2.length ≤ q.2.1 ∧
      (q.1 ≤ l.length → q.2.2.2 ++ wordsN ((l.drop q.2.1).take (q.1 - q.2.1)) (l.drop q.1) = wordsN [] l) ∧ (q.1 = l.length + 1 → q.2.2.2 = wordsN [] l)) (fun q u => l.length + 1 - q.1) (0, 0, .slice none 0 0, [])
    ⟨Nat.zero_le _, Nat.le_refl _, Chg.refl _ _, Own.nil, (fun k hk => by cases hk), Nat.le_refl _, fun _ => rfl, fun h => by simp at h⟩ ?_ ?_
  · exact ⟨rfl, rfl, rfl, rfl, trivial⟩
  rintro ⟨i, from', v, out⟩ u ⟨hi, hf, hC, hO, hv, hol, hd, he⟩
  dsimp only at hi hf hC hO hv hol hd he ⊢
  by_cases hend : i = l.length + 1
  · have he := he hend
    subst he
    iterate 2 (refine zc_seq ?_)
    refine zc_region ?_
    iterate 2 (refine zl_pureL rfl ?_)
    refine z_lenL want_none (by decide) rfl ?_
    refine z_cmpB (r := false) want_none (by decide) rfl rfl rfl (iff_of_false Bool.false_ne_true (by omega)) ?_
    refine zl_nil ?_
    refine zk_seq ?_
    refine zc_false rfl ?_
    refine zc_exit ?_
    iterate 2 (refine zk_exit_then ?_)
    refine zk_exit_block ?_
    refine zk_seq ?_
    refine zc_seq ?_
    refine zc_region ?_
    iterate 2 (refine zl_pureL rfl ?_)
    refine zl_nil ?_
    refine zk_seq ?_
    refine zc_ret ?_
    exact zk_ret1 (.inr rfl) rfl rfl ⟨_, rfl, hO, hC⟩
  have hil : i ≤ l.length := by omega
  have hd := hd hil
  -- the word that ends here
  have hcut : ∀ rest : List UInt8, (i < l.length ∧ blankN (byteL l i) = true ∧ rest = l.drop (i + 1)) ∨ (i = l.length ∧ rest = []) → wordsN ((l.drop from').take (i - from')) (l.drop i) = (if i > from' then [(l.drop from').take (i - from')] else []) ++ wordsN [] rest := by
    intro rest hr
    have hlen : ((l.drop from').take (i - from')).length = i - from' := by rw [List.length_take, List.length_drop]; omega
    have hnil : (l.drop from').take (i - from') = [] ↔ ¬ i > from' := by
      constructor
      · intro h; rw [h] at hlen; simp at hlen; omega
      · intro h; rw [show i - from' = 0 by omega]; rfl
    rcases hr with ⟨h1, h2, rfl⟩ | ⟨h1, rfl⟩
    · rw [drop_cons0 l i h1]
      show (if blankN (l.getD i 0).toNat = true then (if _ = [] then _ else _) else _) = _
      rw [if_pos (show blankN (l.getD i 0).toNat = true from h2)]
      by_cases hq : i > from'
      · rw [if_pos hq, if_neg (fun h => (hnil.1 h) hq)]; rfl
      · rw [if_neg hq, if_pos (hnil.2 hq)]; rfl
    · rw [h1, List.drop_length, ← h1]
      show (if _ = [] then _ else _) = _
      by_cases hq : i > from'
      · rw [if_pos hq, if_neg (fun h => (hnil.1 h) hq)]; rfl
      · rw [if_neg hq, if_pos (hnil.2 hq)]; rfl
  have hmid : i = l.length ∨ (i < l.length ∧ blankN (byteL l i) = true) ∨ (i < l.length ∧ blankN (byteL l i) = false) := by
    by_cases h1 : i = l.length
    · exact .inl h1
    · cases hb : blankN (byteL l i)
      · exact .inr (.inr ⟨by omega, rfl⟩)
      · exact .inr (.inl ⟨by omega, rfl⟩)
  have hstop : ∀ u2, Chg u u2 No → (i = l.length ∨ (i < l.length ∧ blankN (byteL l i) = true)) → out ++ ((if i > from' then [(l.drop from').take (i - from')] else []) ++ (if i < l.length then wordsN [] (l.drop (i + 1)) else [])) = wordsN [] l := fun u2 _ hs => by
    rw [← hd]
    rcases hs with h1 | ⟨h1, h2⟩
    · rw [hcut [] (.inr ⟨h1, rfl⟩), if_neg (show ¬ i < l.length by omega)]; rfl
    · rw [hcut _ (.inl ⟨h1, h2, rfl⟩), if_pos (show i < l.length from h1)]
  have hfin : ∀ (v' : Value) (out' : List (List UInt8)), out' = out ++ (if i > from' then [(l.drop from').take (i - from')] else []) → (i = l.length ∨ (i < l.length ∧ blankN (byteL l i) = true)) →
      (i + 1 ≤ l.length → out' ++ wordsN ((l.drop (i + 1)).take (i + 1 - (i + 1))) (l.drop (i + 1)) = wordsN [] l) ∧ (i + 1 = l.length + 1 → out' = wordsN [] l) := by
    intro v' out' ho hs
    have h := hstop u (Chg.refl _ _) hs
    refine ⟨fun h1 => ?_, fun h1 => ?_⟩
    · rw [Nat.sub_self, List.take_zero, ho, ← h, if_pos (show i < l.length by omega), List.append_assoc]
    · rw [ho, ← h, if_neg (show ¬ i < l.length by omega), List.append_nil]
  rcases hmid with h1 | ⟨h1, h2⟩ | ⟨h1, h2⟩
  · by_cases hq : i > from'
    · iterate 2 (refine zc_seq ?_)
      refine zc_region ?_
      iterate 2 (refine zl_pureL rfl ?_)
      refine z_lenL want_none (by decide) rfl ?_
      refine z_cmpB (r := true) want_none (by decide) rfl rfl rfl (iff_of_true rfl (by omega)) ?_
      refine zl_nil ?_
      refine zk_seq ?_
      refine zc_true rfl ?_
      refine zc_skip ?_
      refine zk_seq ?_
      refine zc_seq ?_
      refine zc_block ?_
      iterate 2 (refine zc_seq ?_)
      refine zc_region ?_
      iterate 2 (refine zl_pureL rfl ?_)
      refine z_lenL want_none (by decide) rfl ?_
      refine z_cmpB (r := false) want_none (by decide) rfl rfl rfl (iff_of_false Bool.false_ne_true (by omega)) ?_
      iterate 3 (refine zl_pureL rfl ?_)
      iterate 2 (refine zl_skip rfl ?_)
      iterate 2 (refine zl_pureL rfl ?_)
      refine zl_nil ?_
      refine zk_seq ?_
      refine zc_false rfl ?_
      refine zc_skip ?_
      refine zk_seq ?_
      iterate 2 (refine zc_seq ?_)
      refine zc_region ?_
      iterate 2 (refine zl_pureL rfl ?_)
      refine z_cmpB (r := true) want_none (by decide) rfl rfl rfl (iff_of_true rfl (by omega)) ?_
      refine zl_nil ?_
      refine zk_seq ?_
      refine zc_true rfl ?_
      refine zc_region ?_
      iterate 4 (refine zl_pureL rfl ?_)
      refine z_cutN from' i (by first | exact want_none | exact want_L rfl) (by decide) rfl rfl rfl rfl rfl (by omega) (by omega) ?_
      refine z_bs1 (by first | exact want_none | exact want_L rfl) (by decide) rfl (by rfl) (by rfl) (by decide) (by decide) (fun w1 b1 hN1 => ?_)
      have hr : RdS w1 9 1 (.slice (some ⟨b1, 0, none⟩) 1 1) 1 (cellsS [(l.drop from').take (i - from')]) := RdS.new hN1 rfl (cellsS_one _)
      refine z_appendO (by rfl) (by decide) (by first | exact want_none | exact want_L rfl) (by decide) rfl rfl (hO.no hN1.chg) hr (by omega) (by omega) (fun v2 w2 hO2 hC2 hr2 => ?_)
      rw [← cellsS_app, show out.length + 1 = (out ++ [(l.drop from').take (i - from')]).length by simp] at hO2
      have hv2 := rowge hv hr2 (by have := hC.size; have := hN1.size; omega)
      have hC3 := (hC.no hN1.chg).trans hC2 (fun j hj hs => by have := hv j hs; omega)
      obtain ⟨g1, g2⟩ := hfin v2 _ (by rw [if_pos hq]) (.inl h1)
      refine zl_pureL rfl ?_
      refine zl_nil ?_
      refine zk_seq ?_
      refine zc_region ?_
      refine zl_pureL rfl ?_
      refine z_add want_none (by decide) rfl rfl (by omega) (by omega) ?_
      refine zl_pureL rfl ?_
      refine zl_nil ?_
      refine zk_norm_block ?_
      refine zk_seq ?_
      refine zc_region ?_
      refine zl_pureL rfl ?_
      refine z_add want_none (by decide) rfl rfl (by omega) (by omega) ?_
      refine zl_pureL rfl ?_
      refine zl_nil ?_
      exact zk_loopW (i + 1, i + 1, v2, out ++ [(l.drop from').take (i - from')]) ⟨by dsimp only; omega, Nat.le_refl _, hC3, hO2, hv2, by simp; omega, g1, g2⟩ (by simp; omega) ⟨rfl, rfl, get_int rfl (by simp), get_int rfl (by simp), trivial⟩
    · obtain ⟨g1, g2⟩ := hfin v out (by rw [if_neg hq, List.append_nil]) (.inl h1)
      iterate 2 (refine zc_seq ?_)
      refine zc_region ?_
      iterate 2 (refine zl_pureL rfl ?_)
      refine z_lenL want_none (by decide) rfl ?_
      refine z_cmpB (r := true) want_none (by decide) rfl rfl rfl (iff_of_true rfl (by omega)) ?_
      refine zl_nil ?_
      refine zk_seq ?_
      refine zc_true rfl ?_
      refine zc_skip ?_
      refine zk_seq ?_
      refine zc_seq ?_
      refine zc_block ?_
      iterate 2 (refine zc_seq ?_)
      refine zc_region ?_
      iterate 2 (refine zl_pureL rfl ?_)
      refine z_lenL want_none (by decide) rfl ?_
      refine z_cmpB (r := false) want_none (by decide) rfl rfl rfl (iff_of_false Bool.false_ne_true (by omega)) ?_
      iterate 3 (refine zl_pureL rfl ?_)
      iterate 2 (refine zl_skip rfl ?_)
      iterate 2 (refine zl_pureL rfl ?_)
      refine zl_nil ?_
      refine zk_seq ?_
      refine zc_false rfl ?_
      refine zc_skip ?_
      refine zk_seq ?_
      iterate 2 (refine zc_seq ?_)
      refine zc_region ?_
      iterate 2 (refine zl_pureL rfl ?_)
      refine z_cmpB (r := false) want_none (by decide) rfl rfl rfl (iff_of_false Bool.false_ne_true (by omega)) ?_
      refine zl_nil ?_
      refine zk_seq ?_
      refine zc_false rfl ?_
      refine zc_skip ?_
      refine zk_seq ?_
      refine zc_region ?_
      refine zl_pureL rfl ?_
      refine z_add want_none (by decide) rfl rfl (by omega) (by omega) ?_
      refine zl_pureL rfl ?_
      refine zl_nil ?_
      refine zk_norm_block ?_
      refine zk_seq ?_
      refine zc_region ?_
      refine zl_pureL rfl ?_
      refine z_add want_none (by decide) rfl rfl (by omega) (by omega) ?_
      refine zl_pureL rfl ?_
      refine zl_nil ?_
      exact zk_loopW (i + 1, i + 1, v, out) ⟨by dsimp only; omega, Nat.le_refl _, hC, hO, hv, by dsimp only; omega, g1, g2⟩ (by simp; omega) ⟨rfl, rfl, get_int rfl (by simp), get_int rfl (by simp), trivial⟩
  · by_cases hq : i > from'
    · iterate 2 (refine zc_seq ?_)
      refine zc_region ?_
      iterate 2 (refine zl_pureL rfl ?_)
      refine z_lenL want_none (by decide) rfl ?_
      refine z_cmpB (r := true) want_none (by decide) rfl rfl rfl (iff_of_true rfl (by omega)) ?_
      refine zl_nil ?_
      refine zk_seq ?_
      refine zc_true rfl ?_
      refine zc_skip ?_
      refine zk_seq ?_
      refine zc_seq ?_
      refine zc_block ?_
      iterate 2 (refine zc_seq ?_)
      refine zc_region ?_
      iterate 2 (refine zl_pureL rfl ?_)
      refine z_lenL want_none (by decide) rfl ?_
      refine z_cmpB (r := true) want_none (by decide) rfl rfl rfl (iff_of_true rfl (by omega)) ?_
      iterate 3 (refine zl_pureL rfl ?_)
      refine z_idxN (want_L rfl) (by decide) rfl rfl (by omega) ?_
      refine zl_call (by first | exact want_none | exact want_L rfl) rfl (by decide) rfl (blankR_calls (byteL l i)) ?_
      rintro _ w1' ⟨rfl, rfl⟩
      refine ⟨_, rfl, ?_⟩
      rw [h2]
      iterate 2 (refine zl_pureL rfl ?_)
      refine zl_nil ?_
      refine zk_seq ?_
      refine zc_false rfl ?_
      refine zc_skip ?_
      refine zk_seq ?_
      iterate 2 (refine zc_seq ?_)
      refine zc_region ?_
      iterate 2 (refine zl_pureL rfl ?_)
      refine z_cmpB (r := true) want_none (by decide) rfl rfl rfl (iff_of_true rfl (by omega)) ?_
      refine zl_nil ?_
      refine zk_seq ?_
      refine zc_true rfl ?_
      refine zc_region ?_
      iterate 4 (refine zl_pureL rfl ?_)
      refine z_cutN from' i (by first | exact want_none | exact want_L rfl) (by decide) rfl rfl rfl rfl rfl (by omega) (by omega) ?_
      refine z_bs1 (by first | exact want_none | exact want_L rfl) (by decide) rfl (by rfl) (by rfl) (by decide) (by decide) (fun w1 b1 hN1 => ?_)
      have hr : RdS w1 9 1 (.slice (some ⟨b1, 0, none⟩) 1 1) 1 (cellsS [(l.drop from').take (i - from')]) := RdS.new hN1 rfl (cellsS_one _)
      refine z_appendO (by rfl) (by decide) (by first | exact want_none | exact want_L rfl) (by decide) rfl rfl (hO.no hN1.chg) hr (by omega) (by omega) (fun v2 w2 hO2 hC2 hr2 => ?_)
      rw [← cellsS_app, show out.length + 1 = (out ++ [(l.drop from').take (i - from')]).length by simp] at hO2
      have hv2 := rowge hv hr2 (by have := hC.size; have := hN1.size; omega)
      have hC3 := (hC.no hN1.chg).trans hC2 (fun j hj hs => by have := hv j hs; omega)
      obtain ⟨g1, g2⟩ := hfin v2 _ (by rw [if_pos hq]) (.inr ⟨h1, h2⟩)
      refine zl_pureL rfl ?_
      refine zl_nil ?_
      refine zk_seq ?_
      refine zc_region ?_
      refine zl_pureL rfl ?_
      refine z_add want_none (by decide) rfl rfl (by omega) (by omega) ?_
      refine zl_pureL rfl ?_
      refine zl_nil ?_
      refine zk_norm_block ?_
      refine zk_seq ?_
      refine zc_region ?_
      refine zl_pureL rfl ?_
      refine z_add want_none (by decide) rfl rfl (by omega) (by omega) ?_
      refine zl_pureL rfl ?_
      refine zl_nil ?_
      exact zk_loopW (i + 1, i + 1, v2, out ++ [(l.drop from').take (i - from')]) ⟨by dsimp only; omega, Nat.le_refl _, hC3, hO2, hv2, by simp; omega, g1, g2⟩ (by simp; omega) ⟨rfl, rfl, get_int rfl (by simp), get_int rfl (by simp), trivial⟩
    · obtain ⟨g1, g2⟩ := hfin v out (by rw [if_neg hq, List.append_nil]) (.inr ⟨h1, h2⟩)
      iterate 2 (refine zc_seq ?_)
      refine zc_region ?_
      iterate 2 (refine zl_pureL rfl ?_)
      refine z_lenL want_none (by decide) rfl ?_
      refine z_cmpB (r := true) want_none (by decide) rfl rfl rfl (iff_of_true rfl (by omega)) ?_
      refine zl_nil ?_
      refine zk_seq ?_
      refine zc_true rfl ?_
      refine zc_skip ?_
      refine zk_seq ?_
      refine zc_seq ?_
      refine zc_block ?_
      iterate 2 (refine zc_seq ?_)
      refine zc_region ?_
      iterate 2 (refine zl_pureL rfl ?_)
      refine z_lenL want_none (by decide) rfl ?_
      refine z_cmpB (r := true) want_none (by decide) rfl rfl rfl (iff_of_true rfl (by omega)) ?_
      iterate 3 (refine zl_pureL rfl ?_)
      refine z_idxN (want_L rfl) (by decide) rfl rfl (by omega) ?_
      refine zl_call (by first | exact want_none | exact want_L rfl) rfl (by decide) rfl (blankR_calls (byteL l i)) ?_
      rintro _ w1' ⟨rfl, rfl⟩
      refine ⟨_, rfl, ?_⟩
      rw [h2]
      iterate 2 (refine zl_pureL rfl ?_)
      refine zl_nil ?_
      refine zk_seq ?_
      refine zc_false rfl ?_
      refine zc_skip ?_
      refine zk_seq ?_
      iterate 2 (refine zc_seq ?_)
      refine zc_region ?_
      iterate 2 (refine zl_pureL rfl ?_)
      refine z_cmpB (r := false) want_none (by decide) rfl rfl rfl (iff_of_false Bool.false_ne_true (by omega)) ?_
      refine zl_nil ?_
      refine zk_seq ?_
      refine zc_false rfl ?_
      refine zc_skip ?_
      refine zk_seq ?_
      refine zc_region ?_
      refine zl_pureL rfl ?_
      refine z_add want_none (by decide) rfl rfl (by omega) (by omega) ?_
      refine zl_pureL rfl ?_
      refine zl_nil ?_
      refine zk_norm_block ?_
      refine zk_seq ?_
      refine zc_region ?_
      refine zl_pureL rfl ?_
      refine z_add want_none (by decide) rfl rfl (by omega) (by omega) ?_
      refine zl_pureL rfl ?_
      refine zl_nil ?_
      exact zk_loopW (i + 1, i + 1, v, out) ⟨by dsimp only; omega, Nat.le_refl _, hC, hO, hv, by dsimp only; omega, g1, g2⟩ (by simp; omega) ⟨rfl, rfl, get_int rfl (by simp), get_int rfl (by simp), trivial⟩
  · iterate 2 (refine zc_seq ?_)
    refine zc_region ?_
    iterate 2 (refine zl_pureL rfl ?_)
    refine z_lenL want_none (by decide) rfl ?_
    refine z_cmpB (r := true) want_none (by decide) rfl rfl rfl (iff_of_true rfl (by omega)) ?_
    refine zl_nil ?_
    refine zk_seq ?_
    refine zc_true rfl ?_
    refine zc_skip ?_
    refine zk_seq ?_
    refine zc_seq ?_
    refine zc_block ?_
    iterate 2 (refine zc_seq ?_)
    refine zc_region ?_
    iterate 2 (refine zl_pureL rfl ?_)
    refine z_lenL want_none (by decide) rfl ?_
    refine z_cmpB (r := true) want_none (by decide) rfl rfl rfl (iff_of_true rfl (by omega)) ?_
    iterate 3 (refine zl_pureL rfl ?_)
    refine z_idxN (want_L rfl) (by decide) rfl rfl (by omega) ?_
    refine zl_call (by first | exact want_none | exact want_L rfl) rfl (by decide) rfl (blankR_calls (byteL l i)) ?_
    rintro _ w1' ⟨rfl, rfl⟩
    refine ⟨_, rfl, ?_⟩
    rw [h2]
    iterate 2 (refine zl_pureL rfl ?_)
    refine zl_nil ?_
    refine zk_seq ?_
    refine zc_true rfl ?_
    refine zc_exit ?_
    refine zk_exit_then ?_
    refine zk_exit_block ?_
    refine zk_seq ?_
    refine zc_region ?_
    refine zl_pureL rfl ?_
    refine z_add want_none (by decide) rfl rfl (by omega) (by omega) ?_
    refine zl_pureL rfl ?_
    refine zl_nil ?_
    refine zk_loopW (i + 1, from', v, out) ⟨by dsimp only; omega, by dsimp only; omega, hC, hO, hv, hol, fun _ => ?_, fun h => by dsimp only at h; omega⟩ (by simp; omega) ⟨rfl, rfl, rfl, get_int rfl (by simp), trivial⟩
    dsimp only
    rw [← hd, drop_cons0 l i h1]
    show _ = out ++ (if blankN (l.getD i 0).toNat = true then _ else wordsN ((l.drop from').take (i - from') ++ [l.getD i 0]) (l.drop (i + 1)))
    rw [if_neg (by show ¬ blankN (byteL l i) = true; rw [h2]; exact Bool.false_ne_true)]
    congr 2
    rw [show i + 1 - from' = (i - from') + 1 by omega, List.take_succ_eq_append_getElem (by rw [List.length_drop]; omega)]
    congr 2
    rw [List.getElem_drop, List.getD_eq_getElem?_getD, List.getElem?_eq_getElem h1]
    simp [show from' + (i - from') = i by omega]
end Go.Proofs.Ytbcmiijollpgeaa.T
