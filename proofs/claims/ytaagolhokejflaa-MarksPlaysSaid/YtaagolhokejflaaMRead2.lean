import Derived.Test.YtaagolhokejflaaMObj
/- Attributes held against each other; keys; a mark with a list of its own. -/
namespace Go.Proofs.Ytaagolhokejflaa.M
open Go Go.Z Go.Proofs
set_option linter.unusedVariables false
theorem any_drop {α : Type} (d : α) (p : α → Bool) (l : List α) (k : Nat) (h : k < l.length) : (l.drop k).any p = (p (l.getD k d) || (l.drop (k + 1)).any p) := by
  rw [List.drop_eq_getElem_cons h, List.any_cons, List.getD_eq_getElem?_getD, List.getElem?_eq_getElem h]; rfl
theorem all_drop {α : Type} (d : α) (p : α → Bool) (l : List α) (k : Nat) (h : k < l.length) : (l.drop k).all p = (p (l.getD k d) && (l.drop (k + 1)).all p) := by
  rw [List.drop_eq_getElem_cons h, List.all_cons, List.getD_eq_getElem?_getD, List.getElem?_eq_getElem h]; rfl
theorem AttrS.at_ {w : World} {v : Value} {l : List At} (h : AttrS w v l) (i : Nat) (hi : i < l.length) : ∃ b o c, v = .slice (some ⟨b, o, none⟩) l.length c ∧ w.cell? ⟨b, o + i * 2, none⟩ = some (.string (l.getD i at0).1) ∧ w.cell? ⟨b, o + i * 2 + 1, none⟩ = some (.string (l.getD i at0).2) := by
  obtain ⟨b, o, c, hv, _, hc⟩ := RdS.some h (by omega)
  obtain ⟨e1, e2⟩ := encA_get l i hi
  exact ⟨b, o, c, hv, hc _ _ e1, by have := hc _ _ e2; rwa [← Nat.add_assoc] at this⟩
def atEq (x y : At) : Bool := decide (y.1 = x.1) && decide (y.2 = x.2)
theorem atEq_t {x y : At} (h1 : y.1 = x.1) (h2 : y.2 = x.2) : atEq x y = true := by simp [atEq, h1, h2]
theorem atEq_f {x y : At} (h : y.1 ≠ x.1 ∨ y.2 ≠ x.2) : atEq x y = false := by
  rcases h with h | h <;> simp [atEq, h]
theorem among_calls {w : World} {v : Value} {l : List At} (x : At) (h : AttrS w v l) (hl : l.length ≤ 100000) :
    Calls Try.prog 50 [v, .agg #[.string x.1, .string x.2]].toArray w fun e w' => e = .returned (.bool (l.any (atEq x))) ∧ Chg w w' No := by
  obtain ⟨A, c, hv, hc⟩ := h.form
  subst hv
  refine calls_zc (n := 26) (f := 50) (fn := Try.f50) Try.func50 rfl rfl (by simp) ?_
  refine zc_seq ?_
  refine zc_region ?_
  refine z_box (by first | exact want_none | exact want_L rfl) (by decide) rfl (fun w1 b1 hN => ?_)
  have hNb : Blk w1 b1 47 [.string x.1, .string x.2] := hN.blk
  refine zl_pureL rfl ?_
  refine zl_nil ?_
  refine zk_seq ?_
  iterate 2 (refine zc_seq ?_)
  refine zc_region ?_
  refine zl_pureL rfl ?_
  refine z_len want_none (by decide) rfl ?_
  refine zl_pureL rfl ?_
  refine zl_nil ?_
  refine zk_seq ?_
  refine zc_block ?_
  refine zc_loopW (ι := Nat) (fun k u => [(3, .pointer (some ⟨b1, 0, none⟩)), (7, .slice A l.length c), (8, .int .i64 l.length), (9, .int .i64 k)])
    (fun k u => k ≤ l.length ∧ Chg w1 u No ∧ l.any (atEq x) = (l.drop k).any (atEq x)) (fun k u => l.length - k) 0 ⟨Nat.zero_le _, Chg.refl _ _, rfl⟩ ?_ ?_
  · exact ⟨rfl, rfl, rfl, rfl, trivial⟩
  rintro k w2 ⟨hk, hC, hb⟩
  have hCw : Chg w w2 No := hN.chg.trans hC (fun _ _ h => h)
  have hNb2 := hNb.no hC
  by_cases hlt : k < l.length
  · obtain ⟨b, o, c', hv, h0, h1⟩ := (h.no hCw).at_ k hlt
    cases hv
    refine zc_seq ?_
    refine zc_region ?_
    refine z_cmpB (r := true) want_none (by decide) rfl rfl rfl (iff_of_true rfl (by omega)) ?_
    refine zl_nil ?_
    refine zk_seq ?_
    refine zc_seq ?_
    refine zc_true rfl ?_
    refine zc_skip ?_
    refine zk_seq ?_
    refine zc_seq ?_
    refine zc_block ?_
    refine zc_seq ?_
    refine zc_region ?_
    refine z_ia want_none (by decide) rfl rfl (by omega) (by omega) ?_
    refine z_loadA (by rfl) (by first | exact want_none | exact want_L rfl) (by decide) rfl (agg2 h0 h1 (by omega)) ?_
    refine z_alloc (by first | exact want_none | exact want_L rfl) (by decide) (fun w3 b3 hN3 => ?_)
    have hb3 := hN3.blk
    skip
    refine z_store (by first | exact want_none | exact want_L rfl) rfl rfl rfl (by assumption) (by first | exact Nat.le_refl _ | simp [Value.cells]) (by simp [Value.cells, Value.oneCell']) (fun w4 hU => ?_)
    have hC4 := (hCw.new hN3).upd hU (hN3.ge hCw)
    have hC14 := (hC.new hN3).upd hU (hN3.ge hC)
    have hb4 : Blk w4 b3 47 [.string (l.getD k at0).1, .string (l.getD k at0).2] := hU.blk
    have hNb4 := hNb.no hC14
    refine zl_nil ?_
    refine zk_seq ?_
    refine zc_seq ?_
    refine zc_region ?_
    refine z_fa want_none (by decide) rfl ?_
    refine z_loadB want_none (by decide) rfl (by assumption) (by rfl) ?_
    refine z_fa want_none (by decide) rfl ?_
    refine z_loadB want_none (by decide) rfl (by assumption) (by rfl) ?_
    refine z_eqS (by first | exact want_none | exact want_L rfl) (by decide) rfl rfl (fun hc => ?_) (fun hc => ?_)
    · refine zl_pureL rfl ?_
      refine z_fa (want_L rfl) (by decide) rfl ?_
      refine z_loadB (want_L rfl) (by decide) rfl (by assumption) (by rfl) ?_
      refine z_fa (want_L rfl) (by decide) rfl ?_
      refine z_loadB (want_L rfl) (by decide) rfl (by assumption) (by rfl) ?_
      refine z_eqS (by first | exact want_none | exact want_L rfl) (by decide) rfl rfl (fun hc => ?_) (fun hc => ?_)
      · refine zl_pureL rfl ?_
        refine zl_nil ?_
        refine zk_seq ?_
        refine zc_true rfl ?_
        refine zc_seq ?_
        refine zc_region ?_
        refine zl_pureL rfl ?_
        refine zl_nil ?_
        refine zk_seq ?_
        refine zc_ret ?_
        refine zk_ret_block ?_
        iterate 2 (refine zk_ret_then ?_)
        refine zk_ret_block ?_
        refine zk_ret_then ?_
        refine zk_ret1 (.inr rfl) rfl rfl ⟨?_, hC4⟩
        rw [hb, any_drop at0 _ _ _ hlt, atEq_t (by assumption) (by assumption)]; rfl
      · refine zl_pureL rfl ?_
        refine zl_nil ?_
        refine zk_seq ?_
        refine zc_false rfl ?_
        refine zc_skip ?_
        refine zk_norm_block ?_
        refine zk_seq ?_
        refine zc_region ?_
        refine z_add want_none (by decide) rfl rfl (by omega) (by omega) ?_
        refine zl_pureL rfl ?_
        refine zl_nil ?_
        refine zk_loopW (k + 1) ⟨by omega, hC14, ?_⟩ (by omega) ⟨rfl, rfl, rfl, get_int rfl (by omega), trivial⟩
        rw [hb, any_drop at0 _ _ _ hlt, atEq_f (.inr (by assumption))]; rfl
    · refine zl_pureL rfl ?_
      iterate 5 (refine zl_skip rfl ?_)
      refine zl_pureL rfl ?_
      refine zl_nil ?_
      refine zk_seq ?_
      refine zc_false rfl ?_
      refine zc_skip ?_
      refine zk_norm_block ?_
      refine zk_seq ?_
      refine zc_region ?_
      refine z_add want_none (by decide) rfl rfl (by omega) (by omega) ?_
      refine zl_pureL rfl ?_
      refine zl_nil ?_
      refine zk_loopW (k + 1) ⟨by omega, hC14, ?_⟩ (by omega) ⟨rfl, rfl, rfl, get_int rfl (by omega), trivial⟩
      rw [hb, any_drop at0 _ _ _ hlt, atEq_f (.inl (by assumption))]; rfl
  · obtain rfl : k = l.length := by omega
    refine zc_seq ?_
    refine zc_region ?_
    refine z_cmpB (r := false) want_none (by decide) rfl rfl rfl (iff_of_false Bool.false_ne_true (by omega)) ?_
    refine zl_nil ?_
    refine zk_seq ?_
    refine zc_seq ?_
    refine zc_false rfl ?_
    refine zc_exit ?_
    iterate 2 (refine zk_exit_then ?_)
    refine zk_exit_block ?_
    refine zk_seq ?_
    refine zc_seq ?_
    refine zc_region ?_
    refine zl_pureL rfl ?_
    refine zl_nil ?_
    refine zk_seq ?_
    refine zc_ret ?_
    refine zk_ret1 (.inr rfl) rfl rfl ⟨?_, hCw⟩
    rw [hb, List.drop_length]; rfl
def tagSame (a b : List At) : Bool := decide (a.length = b.length) && a.all (fun y => b.any (atEq y))
theorem tagSame_calls {w : World} {v1 v2 : Value} {l1 l2 : List At} (h1 : AttrS w v1 l1) (h2 : AttrS w v2 l2) (hl1 : l1.length ≤ 100000) (hl2 : l2.length ≤ 100000) :
    Calls Try.prog 42 [v1, v2].toArray w fun e w' => e = .returned (.bool (tagSame l1 l2)) ∧ Chg w w' No := by
  obtain ⟨A1, c1, hv1, hc1⟩ := h1.form
  obtain ⟨A2, c2, hv2, hc2⟩ := h2.form
  subst hv1; subst hv2
  refine calls_zc (n := 23) (f := 42) (fn := Try.f42) Try.func42 rfl rfl (by simp) ?_
  refine zc_seq ?_
  refine zc_region ?_
  refine zl_pureL rfl ?_
  refine zl_nil ?_
  refine zk_seq ?_
  iterate 2 (refine zc_seq ?_)
  refine zc_region ?_
  refine zl_pureL rfl ?_
  refine z_len want_none (by decide) rfl ?_
  refine zl_pureL rfl ?_
  refine z_len want_none (by decide) rfl ?_
  refine z_cmp (by first | exact want_none | exact want_L rfl) (by decide) rfl rfl rfl (fun hc => ?_) (fun hc => ?_)
  · refine zl_nil ?_
    refine zk_seq ?_
    refine zc_true rfl ?_
    refine zc_seq ?_
    refine zc_region ?_
    refine zl_pureL rfl ?_
    refine zl_nil ?_
    refine zk_seq ?_
    refine zc_ret ?_
    refine zk_ret_then ?_
    refine zk_ret1 (.inr rfl) rfl rfl ⟨?_, Chg.refl _ _⟩
    have : ¬ l1.length = l2.length := by omega
    simp [tagSame, this]
  · refine zl_nil ?_
    refine zk_seq ?_
    refine zc_false rfl ?_
    refine zc_skip ?_
    refine zk_seq ?_
    iterate 2 (refine zc_seq ?_)
    refine zc_region ?_
    refine zl_pureL rfl ?_
    refine z_len want_none (by decide) rfl ?_
    refine zl_pureL rfl ?_
    refine zl_nil ?_
    refine zk_seq ?_
    refine zc_block ?_
    refine zc_loopW (ι := Nat) (fun k u => [(1, .slice A2 l2.length c2), (12, .slice A1 l1.length c1), (13, .int .i64 l1.length), (14, .int .i64 k)])
      (fun k u => k ≤ l1.length ∧ Chg w u No ∧ tagSame l1 l2 = (l1.drop k).all (fun y => l2.any (atEq y))) (fun k u => l1.length - k) 0 ⟨Nat.zero_le _, Chg.refl _ _, ?_⟩ ?_ ?_
    · have : l1.length = l2.length := by omega
      simp [tagSame, this]
    · exact ⟨rfl, rfl, rfl, rfl, trivial⟩
    rintro k w2 ⟨hk, hC, hb⟩
    by_cases hlt : k < l1.length
    · obtain ⟨b, o, c', hv, g0, g1⟩ := (h1.no hC).at_ k hlt
      cases hv
      refine zc_seq ?_
      refine zc_region ?_
      refine z_cmpB (r := true) want_none (by decide) rfl rfl rfl (iff_of_true rfl (by omega)) ?_
      refine zl_nil ?_
      refine zk_seq ?_
      refine zc_seq ?_
      refine zc_true rfl ?_
      refine zc_skip ?_
      refine zk_seq ?_
      refine zc_seq ?_
      refine zc_block ?_
      refine zc_seq ?_
      refine zc_region ?_
      refine z_ia want_none (by decide) rfl rfl (by omega) (by omega) ?_
      refine z_loadA (by rfl) (by first | exact want_none | exact want_L rfl) (by decide) rfl (agg2 g0 g1 (by omega)) ?_
      refine z_alloc (by first | exact want_none | exact want_L rfl) (by decide) (fun w3 b3 hN3 => ?_)
      have hb3 := hN3.blk
      skip
      refine z_store (by first | exact want_none | exact want_L rfl) rfl rfl rfl (by assumption) (by first | exact Nat.le_refl _ | simp [Value.cells]) (by simp [Value.cells, Value.oneCell']) (fun w4 hU => ?_)
      have hC4 := (hC.new hN3).upd hU (hN3.ge hC)
      have hb4 : Blk w4 b3 47 [.string (l1.getD k at0).1, .string (l1.getD k at0).2] := hU.blk
      refine zl_nil ?_
      refine zk_seq ?_
      refine zc_seq ?_
      refine zc_region ?_
      refine zl_pureL rfl ?_
      refine z_loadAB want_none (by decide) rfl (by assumption) (by rfl) ?_
      refine zl_call (by first | exact want_none | exact want_L rfl) rfl (by decide) rfl (among_calls (l1.getD k at0) (h2.no hC4) hl2) ?_
      rintro _ w5 ⟨rfl, hC5⟩
      refine ⟨_, rfl, ?_⟩
      have hC6 := hC4.no hC5
      cases hq : l2.any (atEq (l1.getD k at0))
      · refine zl_pureL rfl ?_
        refine zl_nil ?_
        refine zk_seq ?_
        refine zc_true rfl ?_
        refine zc_seq ?_
        refine zc_region ?_
        refine zl_pureL rfl ?_
        refine zl_nil ?_
        refine zk_seq ?_
        refine zc_ret ?_
        refine zk_ret_block ?_
        iterate 2 (refine zk_ret_then ?_)
        refine zk_ret_block ?_
        refine zk_ret_then ?_
        refine zk_ret1 (.inr rfl) rfl rfl ⟨?_, hC6⟩
        rw [hb, all_drop at0 _ _ _ hlt, hq]; rfl
      · refine zl_pureL rfl ?_
        refine zl_nil ?_
        refine zk_seq ?_
        refine zc_false rfl ?_
        refine zc_skip ?_
        refine zk_norm_block ?_
        refine zk_seq ?_
        refine zc_region ?_
        refine z_add want_none (by decide) rfl rfl (by omega) (by omega) ?_
        refine zl_pureL rfl ?_
        refine zl_nil ?_
        refine zk_loopW (k + 1) ⟨by omega, hC6, ?_⟩ (by omega) ⟨rfl, rfl, rfl, get_int rfl (by omega), trivial⟩
        rw [hb, all_drop at0 _ _ _ hlt, hq]; rfl
    · obtain rfl : k = l1.length := by omega
      refine zc_seq ?_
      refine zc_region ?_
      refine z_cmpB (r := false) want_none (by decide) rfl rfl rfl (iff_of_false Bool.false_ne_true (by omega)) ?_
      refine zl_nil ?_
      refine zk_seq ?_
      refine zc_seq ?_
      refine zc_false rfl ?_
      refine zc_exit ?_
      iterate 2 (refine zk_exit_then ?_)
      refine zk_exit_block ?_
      refine zk_seq ?_
      refine zc_seq ?_
      refine zc_region ?_
      refine zl_pureL rfl ?_
      refine zl_nil ?_
      refine zk_seq ?_
      refine zc_ret ?_
      refine zk_ret1 (.inr rfl) rfl rfl ⟨?_, hC⟩
      rw [hb, List.drop_length]; rfl
end Go.Proofs.Ytaagolhokejflaa.M
