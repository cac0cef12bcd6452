import Derived.Test.YtmhbdalemgmfcaaTLines
/- Words, as the program and as the document has it; rows of texts held against each other. -/
namespace Go.Proofs.Ytmhbdalemgmfcaa.T
open Go Go.Z Go.Proofs
set_option linter.unusedVariables false
def wordsN (cur : List UInt8) : List UInt8 → List (List UInt8)
  | [] => if cur = [] then [] else [cur]
  | c :: r => if blankN c.toNat = true then (if cur = [] then wordsN [] r else cur :: wordsN [] r) else wordsN (cur ++ [c]) r
def cellsS (ss : List (List UInt8)) : List Value := ss.map fun l => .string (bs l)
theorem cellsS_len (ss : List (List UInt8)) : (cellsS ss).length = ss.length := by simp [cellsS]
theorem cellsS_app (l r : List (List UInt8)) : cellsS (l ++ r) = cellsS l ++ cellsS r := by simp [cellsS]
theorem cellsS_one (ss : List (List UInt8)) : ∀ u ∈ cellsS ss, u.oneCell' = true := by
  intro u hu
  simp only [cellsS, List.mem_map] at hu
  obtain ⟨b, _, rfl⟩ := hu
  rfl
theorem cellsS_at (ss : List (List UInt8)) (i : Nat) (h : i < ss.length) : (cellsS ss)[i]? = some (.string (bs (ss.getD i []))) := by
  simp [cellsS, List.getD_eq_getElem?_getD, List.getElem?_eq_getElem h]
theorem rowge {v v' : Value} {B n : Nat} (hv : ∀ k, v.ownBlock = some k → B ≤ k) (hr : v'.ownBlock = v.ownBlock ∨ ∃ k, v'.ownBlock = some k ∧ n ≤ k) (hn : B ≤ n) : ∀ k, v'.ownBlock = some k → B ≤ k := fun k hk => by
  rcases hr with h1 | ⟨q, h1, h2⟩
  · exact hv k (h1 ▸ hk)
  · rw [hk] at h1; cases h1; omega
set_option maxHeartbeats 4000000 in
theorem words_calls {w : World} {l : List UInt8} (hl : l.length ≤ 100000) : Calls Try.prog 22 [.string (bs l)].toArray w fun e w' => ∃ v, e = .returned v ∧ Own w' 9 1 v (wordsN [] l).length (cellsS (wordsN [] l)) ∧ Chg w w' No := by
  refine calls_zc (n := 36) (f := 22) (fn := Try.f22) Try.func22 rfl rfl (by simp) ?_
  refine zc_seq ?_
  refine zc_region ?_
  refine zl_pureL rfl ?_
  refine zl_nil ?_
  refine zk_seq ?_
  refine zc_seq ?_
  refine zc_region ?_
  refine zl_pureL rfl ?_
  refine zl_nil ?_
  refine zk_seq ?_
  refine zc_seq ?_
  refine zc_region ?_
  refine zl_pureL rfl ?_
  refine zl_nil ?_
  refine zk_seq ?_
  iterate 2 (refine zc_seq ?_)
  refine zc_region ?_
  refine zl_pureL rfl ?_
  refine zl_nil ?_
  refine zk_seq ?_
  refine zc_block ?_
  refine zc_loopW (ι := Nat × Nat × Value × List (List UInt8)) (fun q u => [(0, .string (bs l)), (3, q.2.2.1), (4, .int .i64 q.2.1), (5, .int .i64 q.1)])
    (fun q u => q.1 ≤ l.length + 1 ∧ q.2.1 ≤ q.1 ∧ Chg w u No ∧ Own u 9 1 q.2.2.1 q.2.2.2.length (cellsS q.2.2.2) ∧ (∀ k, q.2.2.1.ownBlock = some k → w.heap.size ≤ k) ∧ q.2.2.2.length ≤ q.2.1 ∧
      (q.1 ≤ l.length → q.2.2.2 ++ wordsN ((l.drop q.2.1).take (q.1 - q.2.1)) (l.drop q.1) = wordsN [] l) ∧ (q.1 = l.length + 1 → q.2.2.2 = wordsN [] l)) (fun q u => l.length + 1 - q.1) (0, 0, .slice none 0 0, [])
    ⟨Nat.zero_le _, Nat.le_refl _, Chg.refl _ _, Own.nil, (fun k hk => by cases hk), Nat.le_refl _, fun _ => rfl, fun h => by simp at h⟩ ?_ ?_
  · exact ⟨rfl, rfl, rfl, rfl, trivial⟩
  rintro ⟨i, from', v, out⟩ u ⟨hi, hf, hC, hO, hv, hol, hd, he⟩
  dsimp only at hi hf hC hO hv hol hd he ⊢
  by_cases hend : i = l.length + 1
  · have he := he hend
    subst he
    iterate 2 (refine zc_seq ?_)
    refine zc_region ?_
    iterate 2 (refine zl_pureL rfl ?_)
    refine z_lenL want_none (by decide) rfl ?_
    refine z_cmpB (r := false) want_none (by decide) rfl rfl rfl (iff_of_false Bool.false_ne_true (by omega)) ?_
    refine zl_nil ?_
    refine zk_seq ?_
    refine zc_false rfl ?_
    refine zc_exit ?_
    iterate 2 (refine zk_exit_then ?_)
    refine zk_exit_block ?_
    refine zk_seq ?_
    refine zc_seq ?_
    refine zc_region ?_
    iterate 2 (refine zl_pureL rfl ?_)
    refine zl_nil ?_
    refine zk_seq ?_
    refine zc_ret ?_
    exact zk_ret1 (.inr rfl) rfl rfl ⟨_, rfl, hO, hC⟩
  have hil : i ≤ l.length := by omega
  have hd := hd hil
  -- the word that ends here
  have hcut : ∀ rest : List UInt8, (i < l.length ∧ blankN (byteL l i) = true ∧ rest = l.drop (i + 1)) ∨ (i = l.length ∧ rest = []) → wordsN ((l.drop from').take (i - from')) (l.drop i) = (if i > from' then [(l.drop from').take (i - from')] else []) ++ wordsN [] rest := by
    intro rest hr
    have hlen : ((l.drop from').take (i - from')).length = i - from' := by rw [List.length_take, List.length_drop]; omega
    have hnil : (l.drop from').take (i - from') = [] ↔ ¬ i > from' := by
      constructor
      · intro h; rw [h] at hlen; simp at hlen; omega
      · intro h; rw [show i - from' = 0 by omega]; rfl
    rcases hr with ⟨h1, h2, rfl⟩ | ⟨h1, rfl⟩
    · rw [drop_cons0 l i h1]
      show (if blankN (l.getD i 0).toNat = true then (if _ = [] then _ else _) else _) = _
      rw [if_pos (show blankN (l.getD i 0).toNat = true from h2)]
      by_cases hq : i > from'
      · rw [if_pos hq, if_neg (fun h => (hnil.1 h) hq)]; rfl
      · rw [if_neg hq, if_pos (hnil.2 hq)]; rfl
    · rw [h1, List.drop_length, ← h1]
      show (if _ = [] then _ else _) = _
      by_cases hq : i > from'
      · rw [if_pos hq, if_neg (fun h => (hnil.1 h) hq)]; rfl
      · rw [if_neg hq, if_pos (hnil.2 hq)]; rfl
  have hmid : i = l.length ∨ (i < l.length ∧ blankN (byteL l i) = true) ∨ (i < l.length ∧ blankN (byteL l i) = false) := by
    by_cases h1 : i = l.length
    · exact .inl h1
    · cases hb : blankN (byteL l i)
      · exact .inr (.inr ⟨by omega, rfl⟩)
      · exact .inr (.inl ⟨by omega, rfl⟩)
  have hstop : ∀ u2, Chg u u2 No → (i = l.length ∨ (i < l.length ∧ blankN (byteL l i) = true)) → out ++ ((if i > from' then [(l.drop from').take (i - from')] else []) ++ (if i < l.length then wordsN [] (l.drop (i + 1)) else [])) = wordsN [] l := fun u2 _ hs => by
    rw [← hd]
    rcases hs with h1 | ⟨h1, h2⟩
    · rw [hcut [] (.inr ⟨h1, rfl⟩), if_neg (show ¬ i < l.length by omega)]; rfl
    · rw [hcut _ (.inl ⟨h1, h2, rfl⟩), if_pos (show i < l.length from h1)]
  have hfin : ∀ (v' : Value) (out' : List (List UInt8)), out' = out ++ (if i > from' then [(l.drop from').take (i - from')] else []) → (i = l.length ∨ (i < l.length ∧ blankN (byteL l i) = true)) →
      (i + 1 ≤ l.length → out' ++ wordsN ((l.drop (i + 1)).take (i + 1 - (i + 1))) (l.drop (i + 1)) = wordsN [] l) ∧ (i + 1 = l.length + 1 → out' = wordsN [] l) := by
    intro v' out' ho hs
    have h := hstop u (Chg.refl _ _) hs
    refine ⟨fun h1 => ?_, fun h1 => ?_⟩
    · rw [Nat.sub_self, List.take_zero, ho, ← h, if_pos (show i < l.length by omega), List.append_assoc]
    · rw [ho, ← h, if_neg (show ¬ i < l.length by omega), List.append_nil]
  rcases hmid with h1 | ⟨h1, h2⟩ | ⟨h1, h2⟩
  · by_cases hq : i > from'
    · iterate 2 (refine zc_seq ?_)
      refine zc_region ?_
      iterate 2 (refine zl_pureL rfl ?_)
      refine z_lenL want_none (by decide) rfl ?_
      refine z_cmpB (r := true) want_none (by decide) rfl rfl rfl (iff_of_true rfl (by omega)) ?_
      refine zl_nil ?_
      refine zk_seq ?_
      refine zc_true rfl ?_
      refine zc_skip ?_
      refine zk_seq ?_
      refine zc_seq ?_
      refine zc_block ?_
      iterate 2 (refine zc_seq ?_)
      refine zc_region ?_
      iterate 2 (refine zl_pureL rfl ?_)
      refine z_lenL want_none (by decide) rfl ?_
      refine z_cmpB (r := false) want_none (by decide) rfl rfl rfl (iff_of_false Bool.false_ne_true (by omega)) ?_
      iterate 3 (refine zl_pureL rfl ?_)
      iterate 2 (refine zl_skip rfl ?_)
      iterate 2 (refine zl_pureL rfl ?_)
      refine zl_nil ?_
      refine zk_seq ?_
      refine zc_false rfl ?_
      refine zc_skip ?_
      refine zk_seq ?_
      iterate 2 (refine zc_seq ?_)
      refine zc_region ?_
      iterate 2 (refine zl_pureL rfl ?_)
      refine z_cmpB (r := true) want_none (by decide) rfl rfl rfl (iff_of_true rfl (by omega)) ?_
      refine zl_nil ?_
      refine zk_seq ?_
      refine zc_true rfl ?_
      refine zc_region ?_
      iterate 4 (refine zl_pureL rfl ?_)
      refine z_cutN from' i (by first | exact want_none | exact want_L rfl) (by decide) rfl rfl rfl rfl rfl (by omega) (by omega) ?_
      refine z_bs1 (by first | exact want_none | exact want_L rfl) (by decide) rfl (by rfl) (by rfl) (by decide) (by decide) (fun w1 b1 hN1 => ?_)
      have hr : RdS w1 9 1 (.slice (some ⟨b1, 0, none⟩) 1 1) 1 (cellsS [(l.drop from').take (i - from')]) := RdS.new hN1 rfl (cellsS_one _)
      refine z_appendO (by rfl) (by decide) (by first | exact want_none | exact want_L rfl) (by decide) rfl rfl (hO.no hN1.chg) hr (by omega) (by omega) (fun v2 w2 hO2 hC2 hr2 => ?_)
      rw [← cellsS_app, show out.length + 1 = (out ++ [(l.drop from').take (i - from')]).length by simp] at hO2
      have hv2 := rowge hv hr2 (by have := hC.size; have := hN1.size; omega)
      have hC3 := (hC.no hN1.chg).trans hC2 (fun j hj hs => by have := hv j hs; omega)
      obtain ⟨g1, g2⟩ := hfin v2 _ (by rw [if_pos hq]) (.inl h1)
      refine zl_pureL rfl ?_
      refine zl_nil ?_
      refine zk_seq ?_
      refine zc_region ?_
      refine zl_pureL rfl ?_
      refine z_add want_none (by decide) rfl rfl (by omega) (by omega) ?_
      refine zl_pureL rfl ?_
      refine zl_nil ?_
      refine zk_norm_block ?_
      refine zk_seq ?_
      refine zc_region ?_
      refine zl_pureL rfl ?_
      refine z_add want_none (by decide) rfl rfl (by omega) (by omega) ?_
      refine zl_pureL rfl ?_
      refine zl_nil ?_
      exact zk_loopW (i + 1, i + 1, v2, out ++ [(l.drop from').take (i - from')]) ⟨by dsimp only; omega, Nat.le_refl _, hC3, hO2, hv2, by simp; omega, g1, g2⟩ (by simp; omega) ⟨rfl, rfl, get_int rfl (by simp), get_int rfl (by simp), trivial⟩
    · obtain ⟨g1, g2⟩ := hfin v out (by rw [if_neg hq, List.append_nil]) (.inl h1)
      iterate 2 (refine zc_seq ?_)
      refine zc_region ?_
      iterate 2 (refine zl_pureL rfl ?_)
      refine z_lenL want_none (by decide) rfl ?_
      refine z_cmpB (r := true) want_none (by decide) rfl rfl rfl (iff_of_true rfl (by omega)) ?_
      refine zl_nil ?_
      refine zk_seq ?_
      refine zc_true rfl ?_
      refine zc_skip ?_
      refine zk_seq ?_
      refine zc_seq ?_
      refine zc_block ?_
      iterate 2 (refine zc_seq ?_)
      refine zc_region ?_
      iterate 2 (refine zl_pureL rfl ?_)
      refine z_lenL want_none (by decide) rfl ?_
      refine z_cmpB (r := false) want_none (by decide) rfl rfl rfl (iff_of_false Bool.false_ne_true (by omega)) ?_
      iterate 3 (refine zl_pureL rfl ?_)
      iterate 2 (refine zl_skip rfl ?_)
      iterate 2 (refine zl_pureL rfl ?_)
      refine zl_nil ?_
      refine zk_seq ?_
      refine zc_false rfl ?_
      refine zc_skip ?_
      refine zk_seq ?_
      iterate 2 (refine zc_seq ?_)
      refine zc_region ?_
      iterate 2 (refine zl_pureL rfl ?_)
      refine z_cmpB (r := false) want_none (by decide) rfl rfl rfl (iff_of_false Bool.false_ne_true (by omega)) ?_
      refine zl_nil ?_
      refine zk_seq ?_
      refine zc_false rfl ?_
      refine zc_skip ?_
      refine zk_seq ?_
      refine zc_region ?_
      refine zl_pureL rfl ?_
      refine z_add want_none (by decide) rfl rfl (by omega) (by omega) ?_
      refine zl_pureL rfl ?_
      refine zl_nil ?_
      refine zk_norm_block ?_
      refine zk_seq ?_
      refine zc_region ?_
      refine zl_pureL rfl ?_
      refine z_add want_none (by decide) rfl rfl (by omega) (by omega) ?_
      refine zl_pureL rfl ?_
      refine zl_nil ?_
      exact zk_loopW (i + 1, i + 1, v, out) ⟨by dsimp only; omega, Nat.le_refl _, hC, hO, hv, by dsimp only; omega, g1, g2⟩ (by simp; omega) ⟨rfl, rfl, get_int rfl (by simp), get_int rfl (by simp), trivial⟩
  · by_cases hq : i > from'
    · iterate 2 (refine zc_seq ?_)
      refine zc_region ?_
      iterate 2 (refine zl_pureL rfl ?_)
      refine z_lenL want_none (by decide) rfl ?_
      refine z_cmpB (r := true) want_none (by decide) rfl rfl rfl (iff_of_true rfl (by omega)) ?_
      refine zl_nil ?_
      refine zk_seq ?_
      refine zc_true rfl ?_
      refine zc_skip ?_
      refine zk_seq ?_
      refine zc_seq ?_
      refine zc_block ?_
      iterate 2 (refine zc_seq ?_)
      refine zc_region ?_
      iterate 2 (refine zl_pureL rfl ?_)
      refine z_lenL want_none (by decide) rfl ?_
      refine z_cmpB (r := true) want_none (by decide) rfl rfl rfl (iff_of_true rfl (by omega)) ?_
      iterate 3 (refine zl_pureL rfl ?_)
      refine z_idxN (want_L rfl) (by decide) rfl rfl (by omega) ?_
      refine zl_call (by first | exact want_none | exact want_L rfl) rfl (by decide) rfl (blank_calls (byteL l i)) ?_
      rintro _ w1' ⟨rfl, rfl⟩
      refine ⟨_, rfl, ?_⟩
      rw [h2]
      iterate 2 (refine zl_pureL rfl ?_)
      refine zl_nil ?_
      refine zk_seq ?_
      refine zc_false rfl ?_
      refine zc_skip ?_
      refine zk_seq ?_
      iterate 2 (refine zc_seq ?_)
      refine zc_region ?_
      iterate 2 (refine zl_pureL rfl ?_)
      refine z_cmpB (r := true) want_none (by decide) rfl rfl rfl (iff_of_true rfl (by omega)) ?_
      refine zl_nil ?_
      refine zk_seq ?_
      refine zc_true rfl ?_
      refine zc_region ?_
      iterate 4 (refine zl_pureL rfl ?_)
      refine z_cutN from' i (by first | exact want_none | exact want_L rfl) (by decide) rfl rfl rfl rfl rfl (by omega) (by omega) ?_
      refine z_bs1 (by first | exact want_none | exact want_L rfl) (by decide) rfl (by rfl) (by rfl) (by decide) (by decide) (fun w1 b1 hN1 => ?_)
      have hr : RdS w1 9 1 (.slice (some ⟨b1, 0, none⟩) 1 1) 1 (cellsS [(l.drop from').take (i - from')]) := RdS.new hN1 rfl (cellsS_one _)
      refine z_appendO (by rfl) (by decide) (by first | exact want_none | exact want_L rfl) (by decide) rfl rfl (hO.no hN1.chg) hr (by omega) (by omega) (fun v2 w2 hO2 hC2 hr2 => ?_)
      rw [← cellsS_app, show out.length + 1 = (out ++ [(l.drop from').take (i - from')]).length by simp] at hO2
      have hv2 := rowge hv hr2 (by have := hC.size; have := hN1.size; omega)
      have hC3 := (hC.no hN1.chg).trans hC2 (fun j hj hs => by have := hv j hs; omega)
      obtain ⟨g1, g2⟩ := hfin v2 _ (by rw [if_pos hq]) (.inr ⟨h1, h2⟩)
      refine zl_pureL rfl ?_
      refine zl_nil ?_
      refine zk_seq ?_
      refine zc_region ?_
      refine zl_pureL rfl ?_
      refine z_add want_none (by decide) rfl rfl (by omega) (by omega) ?_
      refine zl_pureL rfl ?_
      refine zl_nil ?_
      refine zk_norm_block ?_
      refine zk_seq ?_
      refine zc_region ?_
      refine zl_pureL rfl ?_
      refine z_add want_none (by decide) rfl rfl (by omega) (by omega) ?_
      refine zl_pureL rfl ?_
      refine zl_nil ?_
      exact zk_loopW (i + 1, i + 1, v2, out ++ [(l.drop from').take (i - from')]) ⟨by dsimp only; omega, Nat.le_refl _, hC3, hO2, hv2, by simp; omega, g1, g2⟩ (by simp; omega) ⟨rfl, rfl, get_int rfl (by simp), get_int rfl (by simp), trivial⟩
    · obtain ⟨g1, g2⟩ := hfin v out (by rw [if_neg hq, List.append_nil]) (.inr ⟨h1, h2⟩)
      iterate 2 (refine zc_seq ?_)
      refine zc_region ?_
      iterate 2 (refine zl_pureL rfl ?_)
      refine z_lenL want_none (by decide) rfl ?_
      refine z_cmpB (r := true) want_none (by decide) rfl rfl rfl (iff_of_true rfl (by omega)) ?_
      refine zl_nil ?_
      refine zk_seq ?_
      refine zc_true rfl ?_
      refine zc_skip ?_
      refine zk_seq ?_
      refine zc_seq ?_
      refine zc_block ?_
      iterate 2 (refine zc_seq ?_)
      refine zc_region ?_
      iterate 2 (refine zl_pureL rfl ?_)
      refine z_lenL want_none (by decide) rfl ?_
      refine z_cmpB (r := true) want_none (by decide) rfl rfl rfl (iff_of_true rfl (by omega)) ?_
      iterate 3 (refine zl_pureL rfl ?_)
      refine z_idxN (want_L rfl) (by decide) rfl rfl (by omega) ?_
      refine zl_call (by first | exact want_none | exact want_L rfl) rfl (by decide) rfl (blank_calls (byteL l i)) ?_
      rintro _ w1' ⟨rfl, rfl⟩
      refine ⟨_, rfl, ?_⟩
      rw [h2]
      iterate 2 (refine zl_pureL rfl ?_)
      refine zl_nil ?_
      refine zk_seq ?_
      refine zc_false rfl ?_
      refine zc_skip ?_
      refine zk_seq ?_
      iterate 2 (refine zc_seq ?_)
      refine zc_region ?_
      iterate 2 (refine zl_pureL rfl ?_)
      refine z_cmpB (r := false) want_none (by decide) rfl rfl rfl (iff_of_false Bool.false_ne_true (by omega)) ?_
      refine zl_nil ?_
      refine zk_seq ?_
      refine zc_false rfl ?_
      refine zc_skip ?_
      refine zk_seq ?_
      refine zc_region ?_
      refine zl_pureL rfl ?_
      refine z_add want_none (by decide) rfl rfl (by omega) (by omega) ?_
      refine zl_pureL rfl ?_
      refine zl_nil ?_
      refine zk_norm_block ?_
      refine zk_seq ?_
      refine zc_region ?_
      refine zl_pureL rfl ?_
      refine z_add want_none (by decide) rfl rfl (by omega) (by omega) ?_
      refine zl_pureL rfl ?_
      refine zl_nil ?_
      exact zk_loopW (i + 1, i + 1, v, out) ⟨by dsimp only; omega, Nat.le_refl _, hC, hO, hv, by dsimp only; omega, g1, g2⟩ (by simp; omega) ⟨rfl, rfl, get_int rfl (by simp), get_int rfl (by simp), trivial⟩
  · iterate 2 (refine zc_seq ?_)
    refine zc_region ?_
    iterate 2 (refine zl_pureL rfl ?_)
    refine z_lenL want_none (by decide) rfl ?_
    refine z_cmpB (r := true) want_none (by decide) rfl rfl rfl (iff_of_true rfl (by omega)) ?_
    refine zl_nil ?_
    refine zk_seq ?_
    refine zc_true rfl ?_
    refine zc_skip ?_
    refine zk_seq ?_
    refine zc_seq ?_
    refine zc_block ?_
    iterate 2 (refine zc_seq ?_)
    refine zc_region ?_
    iterate 2 (refine zl_pureL rfl ?_)
    refine z_lenL want_none (by decide) rfl ?_
    refine z_cmpB (r := true) want_none (by decide) rfl rfl rfl (iff_of_true rfl (by omega)) ?_
    iterate 3 (refine zl_pureL rfl ?_)
    refine z_idxN (want_L rfl) (by decide) rfl rfl (by omega) ?_
    refine zl_call (by first | exact want_none | exact want_L rfl) rfl (by decide) rfl (blank_calls (byteL l i)) ?_
    rintro _ w1' ⟨rfl, rfl⟩
    refine ⟨_, rfl, ?_⟩
    rw [h2]
    iterate 2 (refine zl_pureL rfl ?_)
    refine zl_nil ?_
    refine zk_seq ?_
    refine zc_true rfl ?_
    refine zc_exit ?_
    refine zk_exit_then ?_
    refine zk_exit_block ?_
    refine zk_seq ?_
    refine zc_region ?_
    refine zl_pureL rfl ?_
    refine z_add want_none (by decide) rfl rfl (by omega) (by omega) ?_
    refine zl_pureL rfl ?_
    refine zl_nil ?_
    refine zk_loopW (i + 1, from', v, out) ⟨by dsimp only; omega, by dsimp only; omega, hC, hO, hv, hol, fun _ => ?_, fun h => by dsimp only at h; omega⟩ (by simp; omega) ⟨rfl, rfl, rfl, get_int rfl (by simp), trivial⟩
    dsimp only
    rw [← hd, drop_cons0 l i h1]
    show _ = out ++ (if blankN (l.getD i 0).toNat = true then _ else wordsN ((l.drop from').take (i - from') ++ [l.getD i 0]) (l.drop (i + 1)))
    rw [if_neg (by show ¬ blankN (byteL l i) = true; rw [h2]; exact Bool.false_ne_true)]
    congr 2
    rw [show i + 1 - from' = (i - from') + 1 by omega, List.take_succ_eq_append_getElem (by rw [List.length_drop]; omega)]
    congr 2
    rw [List.getElem_drop, List.getD_eq_getElem?_getD, List.getElem?_eq_getElem h1]
    simp [show from' + (i - from') = i by omega]
set_option maxHeartbeats 4000000 in
theorem wordsR_calls {w : World} {l : List UInt8} (hl : l.length ≤ 100000) : Calls Try.prog 23 [.string (bs l)].toArray w fun e w' => ∃ v, e = .returned v ∧ Own w' 9 1 v (wordsN [] l).length (cellsS (wordsN [] l)) ∧ Chg w w' No := by
  refine calls_zc (n := 36) (f := 23) (fn := Try.f23) Try.func23 rfl rfl (by simp) ?_
  refine zc_seq ?_
  refine zc_region ?_
  refine zl_pureL rfl ?_
  refine zl_nil ?_
  refine zk_seq ?_
  refine zc_seq ?_
  refine zc_region ?_
  refine zl_pureL rfl ?_
  refine zl_nil ?_
  refine zk_seq ?_
  refine zc_seq ?_
  refine zc_region ?_
  refine zl_pureL rfl ?_
  refine zl_nil ?_
  refine zk_seq ?_
  iterate 2 (refine zc_seq ?_)
  refine zc_region ?_
  refine zl_pureL rfl ?_
  refine zl_nil ?_
  refine zk_seq ?_
  refine zc_block ?_
  refine zc_loopW (ι := Nat × Nat × Value × List (List UInt8)) (fun q u => [(0, .string (bs l)), (3, q.2.2.1), (4, .int .i64 q.2.1), (5, .int .i64 q.1)])
    (fun q u => q.1 ≤ l.length + 1 ∧ q.2.1 ≤ q.1 ∧ Chg w u No ∧ Own u 9 1 q.2.2.1 q.2.2.2.length (cellsS q.2.2.2) ∧ (∀ k, q.2.2.1.ownBlock = some k → w.heap.size ≤ k) ∧ q.2.2.2.length ≤ q.2.1 ∧
      (q.1 ≤ l.length → q.2.2.2 ++ wordsN ((l.drop q.2.1).take (q.1 - q.2.1)) (l.drop q.1) = wordsN [] l) ∧ (q.1 = l.length + 1 → q.2.2.2 = wordsN [] l)) (fun q u => l.length + 1 - q.1) (0, 0, .slice none 0 0, [])
    ⟨Nat.zero_le _, Nat.le_refl _, Chg.refl _ _, Own.nil, (fun k hk => by cases hk), Nat.le_refl _, fun _ => rfl, fun h => by simp at h⟩ ?_ ?_
  · exact ⟨rfl, rfl, rfl, rfl, trivial⟩
  rintro ⟨i, from', v, out⟩ u ⟨hi, hf, hC, hO, hv, hol, hd, he⟩
  dsimp only at hi hf hC hO hv hol hd he ⊢
  by_cases hend : i = l.length + 1
  · have he := he hend
    subst he
    iterate 2 (refine zc_seq ?_)
    refine zc_region ?_
    iterate 2 (refine zl_pureL rfl ?_)
    refine z_lenL want_none (by decide) rfl ?_
    refine z_cmpB (r := false) want_none (by decide) rfl rfl rfl (iff_of_false Bool.false_ne_true (by omega)) ?_
    refine zl_nil ?_
    refine zk_seq ?_
    refine zc_false rfl ?_
    refine zc_exit ?_
    iterate 2 (refine zk_exit_then ?_)
    refine zk_exit_block ?_
    refine zk_seq ?_
    refine zc_seq ?_
    refine zc_region ?_
    iterate 2 (refine zl_pureL rfl ?_)
    refine zl_nil ?_
    refine zk_seq ?_
    refine zc_ret ?_
    exact zk_ret1 (.inr rfl) rfl rfl ⟨_, rfl, hO, hC⟩
  have hil : i ≤ l.length := by omega
  have hd := hd hil
  -- the word that ends here
  have hcut : ∀ rest : List UInt8, (i < l.length ∧ blankN (byteL l i) = true ∧ rest = l.drop (i + 1)) ∨ (i = l.length ∧ rest = []) → wordsN ((l.drop from').take (i - from')) (l.drop i) = (if i > from' then [(l.drop from').take (i - from')] else []) ++ wordsN [] rest := by
    intro rest hr
    have hlen : ((l.drop from').take (i - from')).length = i - from' := by rw [List.length_take, List.length_drop]; omega
    have hnil : (l.drop from').take (i - from') = [] ↔ ¬ i > from' := by
      constructor
      · intro h; rw [h] at hlen; simp at hlen; omega
      · intro h; rw [show i - from' = 0 by omega]; rfl
    rcases hr with ⟨h1, h2, rfl⟩ | ⟨h1, rfl⟩
    · rw [drop_cons0 l i h1]
      show (if blankN (l.getD i 0).toNat = true then (if _ = [] then _ else _) else _) = _
      rw [if_pos (show blankN (l.getD i 0).toNat = true from h2)]
      by_cases hq : i > from'
      · rw [if_pos hq, if_neg (fun h => (hnil.1 h) hq)]; rfl
      · rw [if_neg hq, if_pos (hnil.2 hq)]; rfl
    · rw [h1, List.drop_length, ← h1]
      show (if _ = [] then _ else _) = _
      by_cases hq : i > from'
      · rw [if_pos hq, if_neg (fun h => (hnil.1 h) hq)]; rfl
      · rw [if_neg hq, if_pos (hnil.2 hq)]; rfl
  have hmid : i = l.length ∨ (i < l.length ∧ blankN (byteL l i) = true) ∨ (i < l.length ∧ blankN (byteL l i) = false) := by
    by_cases h1 : i = l.length
    · exact .inl h1
    · cases hb : blankN (byteL l i)
      · exact .inr (.inr ⟨by omega, rfl⟩)
      · exact .inr (.inl ⟨by omega, rfl⟩)
  have hstop : ∀ u2, Chg u u2 No → (i = l.length ∨ (i < l.length ∧ blankN (byteL l i) = true)) → out ++ ((if i > from' then [(l.drop from').take (i - from')] else []) ++ (if i < l.length then wordsN [] (l.drop (i + 1)) else [])) = wordsN [] l := fun u2 _ hs => by
    rw [← hd]
    rcases hs with h1 | ⟨h1, h2⟩
    · rw [hcut [] (.inr ⟨h1, rfl⟩), if_neg (show ¬ i < l.length by omega)]; rfl
    · rw [hcut _ (.inl ⟨h1, h2, rfl⟩), if_pos (show i < l.length from h1)]
  have hfin : ∀ (v' : Value) (out' : List (List UInt8)), out' = out ++ (if i > from' then [(l.drop from').take (i - from')] else []) → (i = l.length ∨ (i < l.length ∧ blankN (byteL l i) = true)) →
      (i + 1 ≤ l.length → out' ++ wordsN ((l.drop (i + 1)).take (i + 1 - (i + 1))) (l.drop (i + 1)) = wordsN [] l) ∧ (i + 1 = l.length + 1 → out' = wordsN [] l) := by
    intro v' out' ho hs
    have h := hstop u (Chg.refl _ _) hs
    refine ⟨fun h1 => ?_, fun h1 => ?_⟩
    · rw [Nat.sub_self, List.take_zero, ho, ← h, if_pos (show i < l.length by omega), List.append_assoc]
    · rw [ho, ← h, if_neg (show ¬ i < l.length by omega), List.append_nil]
  rcases hmid with h1 | ⟨h1, h2⟩ | ⟨h1, h2⟩
  · by_cases hq : i > from'
    · iterate 2 (refine zc_seq ?_)
      refine zc_region ?_
      iterate 2 (refine zl_pureL rfl ?_)
      refine z_lenL want_none (by decide) rfl ?_
      refine z_cmpB (r := true) want_none (by decide) rfl rfl rfl (iff_of_true rfl (by omega)) ?_
      refine zl_nil ?_
      refine zk_seq ?_
      refine zc_true rfl ?_
      refine zc_skip ?_
      refine zk_seq ?_
      refine zc_seq ?_
      refine zc_block ?_
      iterate 2 (refine zc_seq ?_)
      refine zc_region ?_
      iterate 2 (refine zl_pureL rfl ?_)
      refine z_lenL want_none (by decide) rfl ?_
      refine z_cmpB (r := false) want_none (by decide) rfl rfl rfl (iff_of_false Bool.false_ne_true (by omega)) ?_
      iterate 3 (refine zl_pureL rfl ?_)
      iterate 2 (refine zl_skip rfl ?_)
      iterate 2 (refine zl_pureL rfl ?_)
      refine zl_nil ?_
      refine zk_seq ?_
      refine zc_false rfl ?_
      refine zc_skip ?_
      refine zk_seq ?_
      iterate 2 (refine zc_seq ?_)
      refine zc_region ?_
      iterate 2 (refine zl_pureL rfl ?_)
      refine z_cmpB (r := true) want_none (by decide) rfl rfl rfl (iff_of_true rfl (by omega)) ?_
      refine zl_nil ?_
      refine zk_seq ?_
      refine zc_true rfl ?_
      refine zc_region ?_
      iterate 4 (refine zl_pureL rfl ?_)
      refine z_cutN from' i (by first | exact want_none | exact want_L rfl) (by decide) rfl rfl rfl rfl rfl (by omega) (by omega) ?_
      refine z_bs1 (by first | exact want_none | exact want_L rfl) (by decide) rfl (by rfl) (by rfl) (by decide) (by decide) (fun w1 b1 hN1 => ?_)
      have hr : RdS w1 9 1 (.slice (some ⟨b1, 0, none⟩) 1 1) 1 (cellsS [(l.drop from').take (i - from')]) := RdS.new hN1 rfl (cellsS_one _)
      refine z_appendO (by rfl) (by decide) (by first | exact want_none | exact want_L rfl) (by decide) rfl rfl (hO.no hN1.chg) hr (by omega) (by omega) (fun v2 w2 hO2 hC2 hr2 => ?_)
      rw [← cellsS_app, show out.length + 1 = (out ++ [(l.drop from').take (i - from')]).length by simp] at hO2
      have hv2 := rowge hv hr2 (by have := hC.size; have := hN1.size; omega)
      have hC3 := (hC.no hN1.chg).trans hC2 (fun j hj hs => by have := hv j hs; omega)
      obtain ⟨g1, g2⟩ := hfin v2 _ (by rw [if_pos hq]) (.inl h1)
      refine zl_pureL rfl ?_
      refine zl_nil ?_
      refine zk_seq ?_
      refine zc_region ?_
      refine zl_pureL rfl ?_
      refine z_add want_none (by decide) rfl rfl (by omega) (by omega) ?_
      refine zl_pureL rfl ?_
      refine zl_nil ?_
      refine zk_norm_block ?_
      refine zk_seq ?_
      refine zc_region ?_
      refine zl_pureL rfl ?_
      refine z_add want_none (by decide) rfl rfl (by omega) (by omega) ?_
      refine zl_pureL rfl ?_
      refine zl_nil ?_
      exact zk_loopW (i + 1, i + 1, v2, out ++ [(l.drop from').take (i - from')]) ⟨by dsimp only; omega, Nat.le_refl _, hC3, hO2, hv2, by simp; omega, g1, g2⟩ (by simp; omega) ⟨rfl, rfl, get_int rfl (by simp), get_int rfl (by simp), trivial⟩
    · obtain ⟨g1, g2⟩ := hfin v out (by rw [if_neg hq, List.append_nil]) (.inl h1)
      iterate 2 (refine zc_seq ?_)
      refine zc_region ?_
      iterate 2 (refine zl_pureL rfl ?_)
      refine z_lenL want_none (by decide) rfl ?_
      refine z_cmpB (r := true) want_none (by decide) rfl rfl rfl (iff_of_true rfl (by omega)) ?_
      refine zl_nil ?_
      refine zk_seq ?_
      refine zc_true rfl ?_
      refine zc_skip ?_
      refine zk_seq ?_
      refine zc_seq ?_
      refine zc_block ?_
      iterate 2 (refine zc_seq ?_)
      refine zc_region ?_
      iterate 2 (refine zl_pureL rfl ?_)
      refine z_lenL want_none (by decide) rfl ?_
      refine z_cmpB (r := false) want_none (by decide) rfl rfl rfl (iff_of_false Bool.false_ne_true (by omega)) ?_
      iterate 3 (refine zl_pureL rfl ?_)
      iterate 2 (refine zl_skip rfl ?_)
      iterate 2 (refine zl_pureL rfl ?_)
      refine zl_nil ?_
      refine zk_seq ?_
      refine zc_false rfl ?_
      refine zc_skip ?_
      refine zk_seq ?_
      iterate 2 (refine zc_seq ?_)
      refine zc_region ?_
      iterate 2 (refine zl_pureL rfl ?_)
      refine z_cmpB (r := false) want_none (by decide) rfl rfl rfl (iff_of_false Bool.false_ne_true (by omega)) ?_
      refine zl_nil ?_
      refine zk_seq ?_
      refine zc_false rfl ?_
      refine zc_skip ?_
      refine zk_seq ?_
      refine zc_region ?_
      refine zl_pureL rfl ?_
      refine z_add want_none (by decide) rfl rfl (by omega) (by omega) ?_
      refine zl_pureL rfl ?_
      refine zl_nil ?_
      refine zk_norm_block ?_
      refine zk_seq ?_
      refine zc_region ?_
      refine zl_pureL rfl ?_
      refine z_add want_none (by decide) rfl rfl (by omega) (by omega) ?_
      refine zl_pureL rfl ?_
      refine zl_nil ?_
      exact zk_loopW (i + 1, i + 1, v, out) ⟨by dsimp only; omega, Nat.le_refl _, hC, hO, hv, by dsimp only; omega, g1, g2⟩ (by simp; omega) ⟨rfl, rfl, get_int rfl (by simp), get_int rfl (by simp), trivial⟩
  · by_cases hq : i > from'
    · iterate 2 (refine zc_seq ?_)
      refine zc_region ?_
      iterate 2 (refine zl_pureL rfl ?_)
      refine z_lenL want_none (by decide) rfl ?_
      refine z_cmpB (r := true) want_none (by decide) rfl rfl rfl (iff_of_true rfl (by omega)) ?_
      refine zl_nil ?_
      refine zk_seq ?_
      refine zc_true rfl ?_
      refine zc_skip ?_
      refine zk_seq ?_
      refine zc_seq ?_
      refine zc_block ?_
      iterate 2 (refine zc_seq ?_)
      refine zc_region ?_
      iterate 2 (refine zl_pureL rfl ?_)
      refine z_lenL want_none (by decide) rfl ?_
      refine z_cmpB (r := true) want_none (by decide) rfl rfl rfl (iff_of_true rfl (by omega)) ?_
      iterate 3 (refine zl_pureL rfl ?_)
      refine z_idxN (want_L rfl) (by decide) rfl rfl (by omega) ?_
      refine zl_call (by first | exact want_none | exact want_L rfl) rfl (by decide) rfl (blankR_calls (byteL l i)) ?_
      rintro _ w1' ⟨rfl, rfl⟩
      refine ⟨_, rfl, ?_⟩
      rw [h2]
      iterate 2 (refine zl_pureL rfl ?_)
      refine zl_nil ?_
      refine zk_seq ?_
      refine zc_false rfl ?_
      refine zc_skip ?_
      refine zk_seq ?_
      iterate 2 (refine zc_seq ?_)
      refine zc_region ?_
      iterate 2 (refine zl_pureL rfl ?_)
      refine z_cmpB (r := true) want_none (by decide) rfl rfl rfl (iff_of_true rfl (by omega)) ?_
      refine zl_nil ?_
      refine zk_seq ?_
      refine zc_true rfl ?_
      refine zc_region ?_
      iterate 4 (refine zl_pureL rfl ?_)
      refine z_cutN from' i (by first | exact want_none | exact want_L rfl) (by decide) rfl rfl rfl rfl rfl (by omega) (by omega) ?_
      refine z_bs1 (by first | exact want_none | exact want_L rfl) (by decide) rfl (by rfl) (by rfl) (by decide) (by decide) (fun w1 b1 hN1 => ?_)
      have hr : RdS w1 9 1 (.slice (some ⟨b1, 0, none⟩) 1 1) 1 (cellsS [(l.drop from').take (i - from')]) := RdS.new hN1 rfl (cellsS_one _)
      refine z_appendO (by rfl) (by decide) (by first | exact want_none | exact want_L rfl) (by decide) rfl rfl (hO.no hN1.chg) hr (by omega) (by omega) (fun v2 w2 hO2 hC2 hr2 => ?_)
      rw [← cellsS_app, show out.length + 1 = (out ++ [(l.drop from').take (i - from')]).length by simp] at hO2
      have hv2 := rowge hv hr2 (by have := hC.size; have := hN1.size; omega)
      have hC3 := (hC.no hN1.chg).trans hC2 (fun j hj hs => by have := hv j hs; omega)
      obtain ⟨g1, g2⟩ := hfin v2 _ (by rw [if_pos hq]) (.inr ⟨h1, h2⟩)
      refine zl_pureL rfl ?_
      refine zl_nil ?_
      refine zk_seq ?_
      refine zc_region ?_
      refine zl_pureL rfl ?_
      refine z_add want_none (by decide) rfl rfl (by omega) (by omega) ?_
      refine zl_pureL rfl ?_
      refine zl_nil ?_
      refine zk_norm_block ?_
      refine zk_seq ?_
      refine zc_region ?_
      refine zl_pureL rfl ?_
      refine z_add want_none (by decide) rfl rfl (by omega) (by omega) ?_
      refine zl_pureL rfl ?_
      refine zl_nil ?_
      exact zk_loopW (i + 1, i + 1, v2, out ++ [(l.drop from').take (i - from')]) ⟨by dsimp only; omega, Nat.le_refl _, hC3, hO2, hv2, by simp; omega, g1, g2⟩ (by simp; omega) ⟨rfl, rfl, get_int rfl (by simp), get_int rfl (by simp), trivial⟩
    · obtain ⟨g1, g2⟩ := hfin v out (by rw [if_neg hq, List.append_nil]) (.inr ⟨h1, h2⟩)
      iterate 2 (refine zc_seq ?_)
      refine zc_region ?_
      iterate 2 (refine zl_pureL rfl ?_)
      refine z_lenL want_none (by decide) rfl ?_
      refine z_cmpB (r := true) want_none (by decide) rfl rfl rfl (iff_of_true rfl (by omega)) ?_
      refine zl_nil ?_
      refine zk_seq ?_
      refine zc_true rfl ?_
      refine zc_skip ?_
      refine zk_seq ?_
      refine zc_seq ?_
      refine zc_block ?_
      iterate 2 (refine zc_seq ?_)
      refine zc_region ?_
      iterate 2 (refine zl_pureL rfl ?_)
      refine z_lenL want_none (by decide) rfl ?_
      refine z_cmpB (r := true) want_none (by decide) rfl rfl rfl (iff_of_true rfl (by omega)) ?_
      iterate 3 (refine zl_pureL rfl ?_)
      refine z_idxN (want_L rfl) (by decide) rfl rfl (by omega) ?_
      refine zl_call (by first | exact want_none | exact want_L rfl) rfl (by decide) rfl (blankR_calls (byteL l i)) ?_
      rintro _ w1' ⟨rfl, rfl⟩
      refine ⟨_, rfl, ?_⟩
      rw [h2]
      iterate 2 (refine zl_pureL rfl ?_)
      refine zl_nil ?_
      refine zk_seq ?_
      refine zc_false rfl ?_
      refine zc_skip ?_
      refine zk_seq ?_
      iterate 2 (refine zc_seq ?_)
      refine zc_region ?_
      iterate 2 (refine zl_pureL rfl ?_)
      refine z_cmpB (r := false) want_none (by decide) rfl rfl rfl (iff_of_false Bool.false_ne_true (by omega)) ?_
      refine zl_nil ?_
      refine zk_seq ?_
      refine zc_false rfl ?_
      refine zc_skip ?_
      refine zk_seq ?_
      refine zc_region ?_
      refine zl_pureL rfl ?_
      refine z_add want_none (by decide) rfl rfl (by omega) (by omega) ?_
      refine zl_pureL rfl ?_
      refine zl_nil ?_
      refine zk_norm_block ?_
      refine zk_seq ?_
      refine zc_region ?_
      refine zl_pureL rfl ?_
      refine z_add want_none (by decide) rfl rfl (by omega) (by omega) ?_
      refine zl_pureL rfl ?_
      refine zl_nil ?_
      exact zk_loopW (i + 1, i + 1, v, out) ⟨by dsimp only; omega, Nat.le_refl _, hC, hO, hv, by dsimp only; omega, g1, g2⟩ (by simp; omega) ⟨rfl, rfl, get_int rfl (by simp), get_int rfl (by simp), trivial⟩
  · iterate 2 (refine zc_seq ?_)
    refine zc_region ?_
    iterate 2 (refine zl_pureL rfl ?_)
    refine z_lenL want_none (by decide) rfl ?_
    refine z_cmpB (r := true) want_none (by decide) rfl rfl rfl (iff_of_true rfl (by omega)) ?_
    refine zl_nil ?_
    refine zk_seq ?_
    refine zc_true rfl ?_
    refine zc_skip ?_
    refine zk_seq ?_
    refine zc_seq ?_
    refine zc_block ?_
    iterate 2 (refine zc_seq ?_)
    refine zc_region ?_
    iterate 2 (refine zl_pureL rfl ?_)
    refine z_lenL want_none (by decide) rfl ?_
    refine z_cmpB (r := true) want_none (by decide) rfl rfl rfl (iff_of_true rfl (by omega)) ?_
    iterate 3 (refine zl_pureL rfl ?_)
    refine z_idxN (want_L rfl) (by decide) rfl rfl (by omega) ?_
    refine zl_call (by first | exact want_none | exact want_L rfl) rfl (by decide) rfl (blankR_calls (byteL l i)) ?_
    rintro _ w1' ⟨rfl, rfl⟩
    refine ⟨_, rfl, ?_⟩
    rw [h2]
    iterate 2 (refine zl_pureL rfl ?_)
    refine zl_nil ?_
    refine zk_seq ?_
    refine zc_true rfl ?_
    refine zc_exit ?_
    refine zk_exit_then ?_
    refine zk_exit_block ?_
    refine zk_seq ?_
    refine zc_region ?_
    refine zl_pureL rfl ?_
    refine z_add want_none (by decide) rfl rfl (by omega) (by omega) ?_
    refine zl_pureL rfl ?_
    refine zl_nil ?_
    refine zk_loopW (i + 1, from', v, out) ⟨by dsimp only; omega, by dsimp only; omega, hC, hO, hv, hol, fun _ => ?_, fun h => by dsimp only at h; omega⟩ (by simp; omega) ⟨rfl, rfl, rfl, get_int rfl (by simp), trivial⟩
    dsimp only
    rw [← hd, drop_cons0 l i h1]
    show _ = out ++ (if blankN (l.getD i 0).toNat = true then _ else wordsN ((l.drop from').take (i - from') ++ [l.getD i 0]) (l.drop (i + 1)))
    rw [if_neg (by show ¬ blankN (byteL l i) = true; rw [h2]; exact Bool.false_ne_true)]
    congr 2
    rw [show i + 1 - from' = (i - from') + 1 by omega, List.take_succ_eq_append_getElem (by rw [List.length_drop]; omega)]
    congr 2
    rw [List.getElem_drop, List.getD_eq_getElem?_getD, List.getElem?_eq_getElem h1]
    simp [show from' + (i - from') = i by omega]
theorem take_getD {α : Type} (d : α) {l : List α} {k : Nat} (h : k < l.length) : l.take (k + 1) = l.take k ++ [l.getD k d] := by
  rw [List.take_succ_eq_append_getElem h, List.getD_eq_getElem?_getD, List.getElem?_eq_getElem h]; rfl
set_option maxHeartbeats 2000000 in
theorem same_calls {w : World} {v1 v2 : Value} {s1 s2 : List (List UInt8)} (h1 : RdS w 9 1 v1 s1.length (cellsS s1)) (h2 : RdS w 9 1 v2 s2.length (cellsS s2)) (hl1 : s1.length ≤ 100000) (hl2 : s2.length ≤ 100000) :
    Calls Try.prog 21 [v1, v2].toArray w fun e w' => e = .returned (.bool (decide (s1 = s2))) ∧ Chg w w' No := by
  obtain ⟨A1, c1, hv1, hc1⟩ := h1.form
  obtain ⟨A2, c2, hv2, hc2⟩ := h2.form
  subst hv1; subst hv2
  refine calls_zc (n := 26) (f := 21) (fn := Try.f21) Try.func21 rfl rfl (by simp) ?_
  refine zc_seq ?_
  refine zc_region ?_
  refine zl_pureL rfl ?_
  refine zl_nil ?_
  refine zk_seq ?_
  iterate 2 (refine zc_seq ?_)
  refine zc_region ?_
  refine zl_pureL rfl ?_
  refine z_len want_none (by decide) rfl ?_
  refine zl_pureL rfl ?_
  refine z_len want_none (by decide) rfl ?_
  refine z_cmp (by first | exact want_none | exact want_L rfl) (by decide) rfl rfl rfl (fun hc => ?_) (fun hc => ?_)
  · refine zl_nil ?_
    refine zk_seq ?_
    refine zc_true rfl ?_
    refine zc_seq ?_
    refine zc_region ?_
    refine zl_pureL rfl ?_
    refine zl_nil ?_
    refine zk_seq ?_
    refine zc_ret ?_
    refine zk_ret_then ?_
    refine zk_ret1 (.inr rfl) rfl rfl ⟨?_, Chg.refl _ _⟩
    have : ¬ s1 = s2 := fun h => by subst h; omega
    rw [decide_eq_false this]
  · have hll : s1.length = s2.length := by omega
    refine zl_nil ?_
    refine zk_seq ?_
    refine zc_false rfl ?_
    refine zc_skip ?_
    refine zk_seq ?_
    iterate 2 (refine zc_seq ?_)
    refine zc_region ?_
    refine zl_pureL rfl ?_
    refine zl_nil ?_
    refine zk_seq ?_
    refine zc_block ?_
    refine zc_loopW (ι := Nat) (fun k u => [(0, .slice A1 s1.length c1), (1, .slice A2 s2.length c2), (5, .int .i64 k)])
      (fun k u => k ≤ s1.length ∧ Chg w u No ∧ s1.take k = s2.take k) (fun k u => s1.length - k) 0 ⟨Nat.zero_le _, Chg.refl _ _, rfl⟩ ?_ ?_
    · exact ⟨rfl, rfl, rfl, trivial⟩
    rintro k w2 ⟨hk, hC, hb⟩
    by_cases hlt : k < s1.length
    · obtain ⟨b, o, c', hv, _, g0⟩ := (h1.no hC).some (by omega)
      obtain ⟨b', o', c'', hv', _, g0'⟩ := (h2.no hC).some (by omega)
      have e0 := g0 _ _ (cellsS_at s1 k hlt)
      have e0' := g0' _ _ (cellsS_at s2 k (by omega))
      cases hv; cases hv'
      iterate 2 (refine zc_seq ?_)
      refine zc_region ?_
      iterate 2 (refine zl_pureL rfl ?_)
      refine z_len want_none (by decide) rfl ?_
      refine z_cmpB (r := true) want_none (by decide) rfl rfl rfl (iff_of_true rfl (by omega)) ?_
      refine zl_nil ?_
      refine zk_seq ?_
      refine zc_true rfl ?_
      refine zc_skip ?_
      refine zk_seq ?_
      refine zc_seq ?_
      refine zc_block ?_
      refine zc_seq ?_
      refine zc_draw [] (fun w' => Chg w2 w' No) (.take 0 (.take 1 (.take 2 (.take 3 (.take 4 (.take 5 (.take 6 (.take 7 (.take 8 (.fin)))))))))) (by rfl) (by kernel_rfl) (by kernel_rfl) (fun w1 hC1 hH1 => ⟨?_, ?_⟩)
      · exact hC1
      iterate 2 (refine zs_take rfl (zt_pure rfl ?_))
      refine zs_rdL rfl want_none rfl (by decide) (fun _ hS => r_ia rfl rfl (by omega) (by omega)) ?_
      refine zs_rdL rfl (by first | exact want_none | exact want_L rfl) rfl (by decide) (fun _ hS => r_load1 rfl (cell_at (cell_keep hS e0) (by omega))) ?_
      iterate 2 (refine zs_take rfl (zt_pure rfl ?_))
      refine zs_rdL rfl want_none rfl (by decide) (fun _ hS => r_ia rfl rfl (by omega) (by omega)) ?_
      refine zs_rdL rfl (by first | exact want_none | exact want_L rfl) rfl (by decide) (fun _ hS => r_load1 rfl (cell_at (cell_keep hS e0') (by omega))) ?_
      have hC2 := hC.no hC1
      refine zs_neS rfl (by first | exact want_none | exact want_L rfl) (by decide) rfl rfl (fun hc => ?_) (fun hc => ?_)
      · refine zs_fin ?_
        refine zk_seq ?_
        refine zc_true rfl ?_
        refine zc_seq ?_
        refine zc_region ?_
        refine zl_pureL rfl ?_
        refine zl_nil ?_
        refine zk_seq ?_
        refine zc_ret ?_
        refine zk_ret_block ?_
        iterate 2 (refine zk_ret_then ?_)
        refine zk_ret_block ?_
        refine zk_ret_then ?_
        refine zk_ret1 (.inr rfl) rfl rfl ⟨?_, hC2⟩
        have hc := ‹bs (s1.getD k []) ≠ bs (s2.getD k [])›
        have : ¬ s1 = s2 := fun h => by subst h; exact hc rfl
        rw [decide_eq_false this]
      · refine zs_fin ?_
        refine zk_seq ?_
        refine zc_false rfl ?_
        refine zc_skip ?_
        refine zk_norm_block ?_
        refine zk_seq ?_
        refine zc_region ?_
        refine zl_pureL rfl ?_
        refine z_add want_none (by decide) rfl rfl (by omega) (by omega) ?_
        refine zl_pureL rfl ?_
        refine zl_nil ?_
        refine zk_loopW (k + 1) ⟨by omega, hC2, ?_⟩ (by omega) ⟨rfl, rfl, get_int rfl (by omega), trivial⟩
        have hc := ‹bs (s1.getD k []) = bs (s2.getD k [])›
        rw [take_getD [] hlt, take_getD [] (by omega), hb, bs_inj.1 hc]
    · obtain rfl : k = s1.length := by omega
      iterate 2 (refine zc_seq ?_)
      refine zc_region ?_
      iterate 2 (refine zl_pureL rfl ?_)
      refine z_len want_none (by decide) rfl ?_
      refine z_cmpB (r := false) want_none (by decide) rfl rfl rfl (iff_of_false Bool.false_ne_true (by omega)) ?_
      refine zl_nil ?_
      refine zk_seq ?_
      refine zc_false rfl ?_
      refine zc_exit ?_
      iterate 2 (refine zk_exit_then ?_)
      refine zk_exit_block ?_
      refine zk_seq ?_
      refine zc_seq ?_
      refine zc_region ?_
      refine zl_pureL rfl ?_
      refine zl_nil ?_
      refine zk_seq ?_
      refine zc_ret ?_
      refine zk_ret1 (.inr rfl) rfl rfl ⟨?_, hC⟩
      rw [List.take_length, hll, List.take_length] at hb
      rw [decide_eq_true hb]
end Go.Proofs.Ytmhbdalemgmfcaa.T
