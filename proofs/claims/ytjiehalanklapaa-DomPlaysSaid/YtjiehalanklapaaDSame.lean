import Derived.Test.YtjiehalanklapaaDSound3
/- Same: the program's, the document's. -/
namespace Go.Proofs.Ytjiehalanklapaa.D
open Go Go.Z Go.Proofs
set_option linter.unusedVariables false
theorem eq_attr {w : World} {a b c d : ByteArray} (k : Nat) : (Op.equalIn (k + 5) 45 (.agg #[.string a, .string b]) (.agg #[.string c, .string d])).run Try.prog w = .ok (decide (a = c) && (decide (b = d) && true)) w := by
  refine eq_struct Try.underlying45 (by kernel_rfl) ?_
  refine eqF_cons (by rfl) (part1 rfl) (part1 rfl) eq_str ?_
  exact eqF_cons (by rfl) (part1 rfl) (part1 rfl) eq_str eqF_nil
theorem take_getD {α : Type} (d : α) {l : List α} {k : Nat} (h : k < l.length) : l.take (k + 1) = l.take k ++ [l.getD k d] := by
  rw [List.take_succ_eq_append_getElem h, List.getD_eq_getElem?_getD, List.getElem?_eq_getElem h]; rfl
set_option maxHeartbeats 2000000 in
theorem alike_calls {w : World} {v1 v2 : Value} {l1 l2 : List At} (h1 : AttrS w v1 l1) (h2 : AttrS w v2 l2) (hl1 : l1.length ≤ 100000) (hl2 : l2.length ≤ 100000) :
    Calls Try.prog 69 [v1, v2].toArray w fun e w' => e = .returned (.bool (decide (l1 = l2))) ∧ Chg w w' No := by
  obtain ⟨A1, c1, hv1, hc1⟩ := h1.form
  obtain ⟨A2, c2, hv2, hc2⟩ := h2.form
  subst hv1; subst hv2
  refine calls_zc (n := 26) (f := 69) (fn := Try.f69) Try.func69 rfl rfl (by simp) ?_
  refine zc_seq ?_
  refine zc_region ?_
  refine zl_pureL rfl ?_
  refine zl_nil ?_
  refine zk_seq ?_
  iterate 2 (refine zc_seq ?_)
  refine zc_region ?_
  refine zl_pureL rfl ?_
  refine z_len want_none (by decide) rfl ?_
  refine zl_pureL rfl ?_
  refine z_len want_none (by decide) rfl ?_
  refine z_cmp (by first | exact want_none | exact want_L rfl) (by decide) rfl rfl rfl (fun hc => ?_) (fun hc => ?_)
  · refine zl_nil ?_
    refine zk_seq ?_
    refine zc_true rfl ?_
    refine zc_seq ?_
    refine zc_region ?_
    refine zl_pureL rfl ?_
    refine zl_nil ?_
    refine zk_seq ?_
    refine zc_ret ?_
    refine zk_ret_then ?_
    refine zk_ret1 (.inr rfl) rfl rfl ⟨?_, Chg.refl _ _⟩
    have : ¬ l1 = l2 := fun h => by subst h; omega
    rw [decide_eq_false this]
  · have hll : l1.length = l2.length := by omega
    refine zl_nil ?_
    refine zk_seq ?_
    refine zc_false rfl ?_
    refine zc_skip ?_
    refine zk_seq ?_
    iterate 2 (refine zc_seq ?_)
    refine zc_region ?_
    refine zl_pureL rfl ?_
    refine zl_nil ?_
    refine zk_seq ?_
    refine zc_block ?_
    refine zc_loopW (ι := Nat) (fun k u => [(0, .slice A1 l1.length c1), (1, .slice A2 l2.length c2), (5, .int .i64 k)])
      (fun k u => k ≤ l1.length ∧ Chg w u No ∧ l1.take k = l2.take k) (fun k u => l1.length - k) 0 ⟨Nat.zero_le _, Chg.refl _ _, rfl⟩ ?_ ?_
    · exact ⟨rfl, rfl, rfl, trivial⟩
    rintro k w2 ⟨hk, hC, hb⟩
    by_cases hlt : k < l1.length
    · obtain ⟨b, o, c', hv, g0, g1⟩ := (h1.no hC).at_ k hlt
      obtain ⟨b', o', c'', hv', g0', g1'⟩ := (h2.no hC).at_ k (by omega)
      cases hv; cases hv'
      iterate 2 (refine zc_seq ?_)
      refine zc_region ?_
      iterate 2 (refine zl_pureL rfl ?_)
      refine z_len want_none (by decide) rfl ?_
      refine z_cmpB (r := true) want_none (by decide) rfl rfl rfl (iff_of_true rfl (by omega)) ?_
      refine zl_nil ?_
      refine zk_seq ?_
      refine zc_true rfl ?_
      refine zc_skip ?_
      refine zk_seq ?_
      refine zc_seq ?_
      refine zc_block ?_
      refine zc_seq ?_
      refine zc_draw [] (fun w' => Chg w2 w' No) (.take 0 (.take 1 (.take 2 (.take 3 (.take 4 (.take 5 (.take 6 (.take 7 (.take 8 (.fin)))))))))) (by rfl) (by kernel_rfl) (by kernel_rfl) (fun w1 hC1 hH1 => ⟨?_, ?_⟩)
      · exact hC1
      iterate 2 (refine zs_take rfl (zt_pure rfl ?_))
      refine zs_rdL rfl want_none rfl (by decide) (fun _ hS => r_ia rfl rfl (by omega) (by omega)) ?_
      refine zs_rdL rfl (by first | exact want_none | exact want_L rfl) rfl (by decide) (fun _ hS => r_loadA (by rfl) rfl (agg2 (cell_no hS g0) (cell_no hS g1) (by omega))) ?_
      iterate 2 (refine zs_take rfl (zt_pure rfl ?_))
      refine zs_rdL rfl want_none rfl (by decide) (fun _ hS => r_ia rfl rfl (by omega) (by omega)) ?_
      refine zs_rdL rfl (by first | exact want_none | exact want_L rfl) rfl (by decide) (fun _ hS => r_loadA (by rfl) rfl (agg2 (cell_no hS g0') (cell_no hS g1') (by omega))) ?_
      refine zs_rdL rfl (by first | exact want_none | exact want_L rfl) rfl (by decide) (fun _ hS => r_neA rfl rfl (by kernel_rfl) (fun d => eq_attr d)) ?_
      have hC2 := hC.no hC1
      cases hq : (decide ((l1.getD k at0).1 = (l2.getD k at0).1) && (decide ((l1.getD k at0).2 = (l2.getD k at0).2) && true))
      · refine zs_fin ?_
        refine zk_seq ?_
        refine zc_true rfl ?_
        refine zc_seq ?_
        refine zc_region ?_
        refine zl_pureL rfl ?_
        refine zl_nil ?_
        refine zk_seq ?_
        refine zc_ret ?_
        refine zk_ret_block ?_
        iterate 2 (refine zk_ret_then ?_)
        refine zk_ret_block ?_
        refine zk_ret_then ?_
        refine zk_ret1 (.inr rfl) rfl rfl ⟨?_, hC2⟩
        have : ¬ l1 = l2 := fun h => by subst h; simp at hq
        rw [decide_eq_false this]
      · refine zs_fin ?_
        refine zk_seq ?_
        refine zc_false rfl ?_
        refine zc_skip ?_
        refine zk_norm_block ?_
        refine zk_seq ?_
        refine zc_region ?_
        refine zl_pureL rfl ?_
        refine z_add want_none (by decide) rfl rfl (by omega) (by omega) ?_
        refine zl_pureL rfl ?_
        refine zl_nil ?_
        refine zk_loopW (k + 1) ⟨by omega, hC2, ?_⟩ (by omega) ⟨rfl, rfl, get_int rfl (by omega), trivial⟩
        simp only [Bool.and_true, Bool.and_eq_true, decide_eq_true_eq] at hq
        rw [take_getD at0 hlt, take_getD at0 (by omega), hb, Prod.ext hq.1 hq.2]
    · obtain rfl : k = l1.length := by omega
      iterate 2 (refine zc_seq ?_)
      refine zc_region ?_
      iterate 2 (refine zl_pureL rfl ?_)
      refine z_len want_none (by decide) rfl ?_
      refine z_cmpB (r := false) want_none (by decide) rfl rfl rfl (iff_of_false Bool.false_ne_true (by omega)) ?_
      refine zl_nil ?_
      refine zk_seq ?_
      refine zc_false rfl ?_
      refine zc_exit ?_
      iterate 2 (refine zk_exit_then ?_)
      refine zk_exit_block ?_
      refine zk_seq ?_
      refine zc_seq ?_
      refine zc_region ?_
      refine zl_pureL rfl ?_
      refine zl_nil ?_
      refine zk_seq ?_
      refine zc_ret ?_
      refine zk_ret1 (.inr rfl) rfl rfl ⟨?_, hC⟩
      rw [List.take_length, hll, List.take_length] at hb
      rw [decide_eq_true hb]
theorem Hd.ext' {a b : Hd} (h1 : a.kind = b.kind) (h2 : a.space = b.space) (h3 : a.name = b.name) (h4 : a.attrs = b.attrs) (h5 : a.text = b.text) (h6 : a.fr = b.fr) : a = b := by
  cases a; cases b; simp_all
def hdV (x : Hd) (A K : Value) : Value := .agg #[.int .i64 x.kind, .int .i64 x.space, .string x.name, A, .string x.text, .int .i64 x.fr, K]
theorem no_ {p : Prop} (h : ¬ p) : ((false : Bool) = true ↔ p) := iff_of_false Bool.false_ne_true h
set_option maxHeartbeats 4000000 in
theorem one_calls {w : World} {x y : Hd} {A A' K K' : Value} {k k' : NT} (hA : AttrS w A x.attrs) (hA' : AttrS w A' y.attrs) (hK : TreeAt w K k) (hK' : TreeAt w K' k') (hal : x.attrs.length ≤ 100000) (hal' : y.attrs.length ≤ 100000) :
    Calls Try.prog 50 [.agg #[.int .i64 x.kind, .int .i64 x.space, .string x.name, A, .string x.text, .int .i64 x.fr, K], .agg #[.int .i64 y.kind, .int .i64 y.space, .string y.name, A', .string y.text, .int .i64 y.fr, K']].toArray w fun e w' => ∃ q, e = .returned (.bool q) ∧ (q = true ↔ x = y) ∧ Chg w w' No := by
  obtain ⟨A2, c2, rfl, _⟩ := hA.form
  obtain ⟨A3, c3, rfl, _⟩ := hK.form
  obtain ⟨A4, c4, rfl, _⟩ := hA'.form
  obtain ⟨A5, c5, rfl, _⟩ := hK'.form
  refine calls_zc (n := 45) (f := 50) (fn := Try.f50) Try.func50 rfl rfl (by simp) ?_
  refine zc_seq ?_
  refine zc_region ?_
  refine z_box (by first | exact want_none | exact want_L rfl) (by decide) rfl (fun w1 b1 hN1 => ?_)
  have hb1 : Blk w1 b1 48 [.int .i64 x.kind, .int .i64 x.space, .string x.name, .slice A2 x.attrs.length c2, .string x.text, .int .i64 x.fr, .slice A3 k.len c3] := hN1.blk
  skip
  refine z_box (by first | exact want_none | exact want_L rfl) (by decide) rfl (fun w2 b2 hN2 => ?_)
  have hb2 : Blk w2 b2 48 [.int .i64 y.kind, .int .i64 y.space, .string y.name, .slice A4 y.attrs.length c4, .string y.text, .int .i64 y.fr, .slice A5 k'.len c5] := hN2.blk
  have hb1 := hb1.no hN2.chg
  have hC := hN1.chg.no hN2.chg
  by_cases h1 : x.kind = y.kind
  · by_cases h2 : x.space = y.space
    · refine zl_pureL rfl ?_
      refine zl_nil ?_
      refine zk_seq ?_
      refine zc_seq ?_
      refine zc_region ?_
      refine z_fa want_none (by decide) rfl ?_
      refine z_loadB want_none (by decide) rfl (by assumption) (by rfl) ?_
      refine z_fa want_none (by decide) rfl ?_
      refine z_loadB want_none (by decide) rfl (by assumption) (by rfl) ?_
      refine z_cmpB (r := true) want_none (by decide) rfl rfl rfl (iff_of_true rfl (by omega)) ?_
      refine zl_pureL rfl ?_
      refine z_fa (want_L rfl) (by decide) rfl ?_
      refine z_loadB (want_L rfl) (by decide) rfl (by assumption) (by rfl) ?_
      refine z_fa (want_L rfl) (by decide) rfl ?_
      refine z_loadB (want_L rfl) (by decide) rfl (by assumption) (by rfl) ?_
      refine z_cmpB (r := true) (want_L rfl) (by decide) rfl rfl rfl (iff_of_true rfl (by omega)) ?_
      iterate 2 (refine zl_pureL rfl ?_)
      refine z_fa (want_L rfl) (by decide) rfl ?_
      refine z_loadB (want_L rfl) (by decide) rfl (by assumption) (by rfl) ?_
      refine z_fa (want_L rfl) (by decide) rfl ?_
      refine z_loadB (want_L rfl) (by decide) rfl (by assumption) (by rfl) ?_
      refine z_eqS (by first | exact want_none | exact want_L rfl) (by decide) rfl rfl (fun hc => ?_) (fun hc => ?_)
      · iterate 2 (refine zl_pureL rfl ?_)
        refine z_fa (want_L rfl) (by decide) rfl ?_
        refine z_loadB (want_L rfl) (by decide) rfl (by assumption) (by rfl) ?_
        refine z_fa (want_L rfl) (by decide) rfl ?_
        refine z_loadB (want_L rfl) (by decide) rfl (by assumption) (by rfl) ?_
        refine zl_call (by first | exact want_none | exact want_L rfl) rfl (by decide) rfl (alike_calls (hA.no hC) (hA'.no hC) hal hal') ?_
        rintro _ w3 ⟨rfl, hC3⟩
        refine ⟨_, rfl, ?_⟩
        have hb1 := hb1.no hC3
        have hb2 := hb2.no hC3
        by_cases h4 : x.attrs = y.attrs
        · rw [decide_eq_true h4]
          iterate 2 (refine zl_pureL rfl ?_)
          refine z_fa (want_L rfl) (by decide) rfl ?_
          refine z_loadB (want_L rfl) (by decide) rfl (by assumption) (by rfl) ?_
          refine z_fa (want_L rfl) (by decide) rfl ?_
          refine z_loadB (want_L rfl) (by decide) rfl (by assumption) (by rfl) ?_
          refine z_eqS (by first | exact want_none | exact want_L rfl) (by decide) rfl rfl (fun hc => ?_) (fun hc => ?_)
          · by_cases h6 : x.fr = y.fr
            · iterate 2 (refine zl_pureL rfl ?_)
              refine z_fa (want_L rfl) (by decide) rfl ?_
              refine z_loadB (want_L rfl) (by decide) rfl (by assumption) (by rfl) ?_
              refine z_fa (want_L rfl) (by decide) rfl ?_
              refine z_loadB (want_L rfl) (by decide) rfl (by assumption) (by rfl) ?_
              refine z_cmpB (r := true) (want_L rfl) (by decide) rfl rfl rfl (iff_of_true rfl (by omega)) ?_
              iterate 2 (refine zl_pureL rfl ?_)
              refine zl_nil ?_
              refine zk_seq ?_
              refine zc_ret ?_
              exact zk_ret1 (.inr rfl) rfl rfl ⟨true, rfl, iff_of_true rfl (Hd.ext' h1 h2 (by assumption) h4 (by assumption) h6), hC.no hC3⟩
            · iterate 2 (refine zl_pureL rfl ?_)
              refine z_fa (want_L rfl) (by decide) rfl ?_
              refine z_loadB (want_L rfl) (by decide) rfl (by assumption) (by rfl) ?_
              refine z_fa (want_L rfl) (by decide) rfl ?_
              refine z_loadB (want_L rfl) (by decide) rfl (by assumption) (by rfl) ?_
              refine z_cmpB (r := false) (want_L rfl) (by decide) rfl rfl rfl (iff_of_false Bool.false_ne_true (by omega)) ?_
              iterate 2 (refine zl_pureL rfl ?_)
              refine zl_nil ?_
              refine zk_seq ?_
              refine zc_ret ?_
              exact zk_ret1 (.inr rfl) rfl rfl ⟨false, rfl, no_ (fun h => h6 (by rw [h])), hC.no hC3⟩
          · have hn : ¬ x.text = y.text := by assumption
            iterate 2 (refine zl_pureL rfl ?_)
            iterate 5 (refine zl_skip rfl ?_)
            iterate 2 (refine zl_pureL rfl ?_)
            refine zl_nil ?_
            refine zk_seq ?_
            refine zc_ret ?_
            exact zk_ret1 (.inr rfl) rfl rfl ⟨false, rfl, no_ (fun h => hn (by rw [h])), hC.no hC3⟩
        · rw [decide_eq_false h4]
          iterate 2 (refine zl_pureL rfl ?_)
          iterate 5 (refine zl_skip rfl ?_)
          iterate 2 (refine zl_pureL rfl ?_)
          iterate 5 (refine zl_skip rfl ?_)
          iterate 2 (refine zl_pureL rfl ?_)
          refine zl_nil ?_
          refine zk_seq ?_
          refine zc_ret ?_
          exact zk_ret1 (.inr rfl) rfl rfl ⟨false, rfl, no_ (fun h => h4 (by rw [h])), hC.no hC3⟩
      · have hn : ¬ x.name = y.name := by assumption
        iterate 2 (refine zl_pureL rfl ?_)
        iterate 5 (refine zl_skip rfl ?_)
        iterate 2 (refine zl_pureL rfl ?_)
        iterate 5 (refine zl_skip rfl ?_)
        iterate 2 (refine zl_pureL rfl ?_)
        iterate 5 (refine zl_skip rfl ?_)
        iterate 2 (refine zl_pureL rfl ?_)
        refine zl_nil ?_
        refine zk_seq ?_
        refine zc_ret ?_
        exact zk_ret1 (.inr rfl) rfl rfl ⟨false, rfl, no_ (fun h => hn (by rw [h])), hC⟩
    · refine zl_pureL rfl ?_
      refine zl_nil ?_
      refine zk_seq ?_
      refine zc_seq ?_
      refine zc_region ?_
      refine z_fa want_none (by decide) rfl ?_
      refine z_loadB want_none (by decide) rfl (by assumption) (by rfl) ?_
      refine z_fa want_none (by decide) rfl ?_
      refine z_loadB want_none (by decide) rfl (by assumption) (by rfl) ?_
      refine z_cmpB (r := true) want_none (by decide) rfl rfl rfl (iff_of_true rfl (by omega)) ?_
      refine zl_pureL rfl ?_
      refine z_fa (want_L rfl) (by decide) rfl ?_
      refine z_loadB (want_L rfl) (by decide) rfl (by assumption) (by rfl) ?_
      refine z_fa (want_L rfl) (by decide) rfl ?_
      refine z_loadB (want_L rfl) (by decide) rfl (by assumption) (by rfl) ?_
      refine z_cmpB (r := false) (want_L rfl) (by decide) rfl rfl rfl (iff_of_false Bool.false_ne_true (by omega)) ?_
      iterate 2 (refine zl_pureL rfl ?_)
      iterate 5 (refine zl_skip rfl ?_)
      iterate 2 (refine zl_pureL rfl ?_)
      iterate 5 (refine zl_skip rfl ?_)
      iterate 2 (refine zl_pureL rfl ?_)
      iterate 5 (refine zl_skip rfl ?_)
      iterate 2 (refine zl_pureL rfl ?_)
      iterate 5 (refine zl_skip rfl ?_)
      iterate 2 (refine zl_pureL rfl ?_)
      refine zl_nil ?_
      refine zk_seq ?_
      refine zc_ret ?_
      exact zk_ret1 (.inr rfl) rfl rfl ⟨false, rfl, no_ (fun h => h2 (by rw [h])), hC⟩
  · refine zl_pureL rfl ?_
    refine zl_nil ?_
    refine zk_seq ?_
    refine zc_seq ?_
    refine zc_region ?_
    refine z_fa want_none (by decide) rfl ?_
    refine z_loadB want_none (by decide) rfl (by assumption) (by rfl) ?_
    refine z_fa want_none (by decide) rfl ?_
    refine z_loadB want_none (by decide) rfl (by assumption) (by rfl) ?_
    refine z_cmpB (r := false) want_none (by decide) rfl rfl rfl (iff_of_false Bool.false_ne_true (by omega)) ?_
    refine zl_pureL rfl ?_
    iterate 5 (refine zl_skip rfl ?_)
    iterate 2 (refine zl_pureL rfl ?_)
    iterate 5 (refine zl_skip rfl ?_)
    iterate 2 (refine zl_pureL rfl ?_)
    iterate 5 (refine zl_skip rfl ?_)
    iterate 2 (refine zl_pureL rfl ?_)
    iterate 5 (refine zl_skip rfl ?_)
    iterate 2 (refine zl_pureL rfl ?_)
    iterate 5 (refine zl_skip rfl ?_)
    iterate 2 (refine zl_pureL rfl ?_)
    refine zl_nil ?_
    refine zk_seq ?_
    refine zc_ret ?_
    exact zk_ret1 (.inr rfl) rfl rfl ⟨false, rfl, no_ (fun h => h1 (by rw [h])), hC⟩
theorem drop_iff {t1 t2 k k' r r' : NT} {i : Nat} {x y : Hd} (hd : t1.dropN i = t2.dropN i ↔ t1 = t2) (e1 : t1.dropN i = .cons x k r) (e2 : t2.dropN i = .cons y k' r') (hx : x = y) (hk : k = k') : t1.dropN (i + 1) = t2.dropN (i + 1) ↔ t1 = t2 := by
  rw [t1.drop_succ i _ _ _ e1, t2.drop_succ i _ _ _ e2, ← hd, e1, e2, hx, hk]
  simp
set_option maxHeartbeats 4000000 in
theorem sameR_calls : ∀ (f : Nat) {w : World} {v1 v2 : Value} {t1 t2 : NT}, TreeAt w v1 t1 → TreeAt w v2 t2 → FewT t1 → FewT t2 → t1.size ≤ f → f ≤ 100000 →
    Calls Try.prog 27 [v1, v2].toArray w fun e w' => ∃ q, e = .returned (.bool q) ∧ (q = true ↔ t1 = t2) ∧ Chg w w' No := by
  intro f
  induction f with
  | zero =>
    intro w v1 v2 t1 t2 g1 g2 hf1 hf2 hs _
    obtain ⟨A1, c1, rfl, hc1⟩ := g1.form
    obtain ⟨A2, c2, rfl, hc2⟩ := g2.form
    cases t1 with
    | cons x k r => simp [NT.size] at hs
    | nil =>
      refine calls_zc (n := 41) (f := 27) (fn := Try.f27) Try.func27 rfl rfl (by simp) ?_
      by_cases h0 : t2.len = 0
      · have h0' := len0 h0
        subst h0'
        refine zc_seq ?_
        refine zc_region ?_
        refine zl_pureL rfl ?_
        refine zl_nil ?_
        refine zk_seq ?_
        iterate 2 (refine zc_seq ?_)
        refine zc_region ?_
        refine zl_pureL rfl ?_
        refine z_len want_none (by decide) rfl ?_
        refine zl_pureL rfl ?_
        refine z_len want_none (by decide) rfl ?_
        refine z_cmpB (r := false) want_none (by decide) rfl rfl rfl (iff_of_false Bool.false_ne_true (by omega)) ?_
        refine zl_nil ?_
        refine zk_seq ?_
        refine zc_false rfl ?_
        refine zc_skip ?_
        refine zk_seq ?_
        iterate 2 (refine zc_seq ?_)
        refine zc_region ?_
        refine zl_pureL rfl ?_
        refine zl_nil ?_
        refine zk_seq ?_
        refine zc_block ?_
        refine zc_loopW (ι := Nat) (fun i u => [(0, .slice A1 0 c1), (1, .slice A2 0 c2), (5, .int .i64 0)]) (fun i u => u = w) (fun i u => 0) 0 rfl ?_ ?_
        · exact ⟨rfl, rfl, rfl, trivial⟩
        rintro i u rfl
        iterate 2 (refine zc_seq ?_)
        refine zc_region ?_
        iterate 2 (refine zl_pureL rfl ?_)
        refine z_len want_none (by decide) rfl ?_
        refine z_cmpB (r := false) want_none (by decide) rfl rfl rfl (iff_of_false Bool.false_ne_true (by omega)) ?_
        refine zl_nil ?_
        refine zk_seq ?_
        refine zc_false rfl ?_
        refine zc_exit ?_
        iterate 2 (refine zk_exit_then ?_)
        refine zk_exit_block ?_
        refine zk_seq ?_
        refine zc_seq ?_
        refine zc_region ?_
        refine zl_pureL rfl ?_
        refine zl_nil ?_
        refine zk_seq ?_
        refine zc_ret ?_
        exact zk_ret1 (.inr rfl) rfl rfl ⟨true, rfl, iff_of_true rfl rfl, Chg.refl _ _⟩
      · have hl : NT.nil.len = 0 := rfl
        rw [hl]
        refine zc_seq ?_
        refine zc_region ?_
        refine zl_pureL rfl ?_
        refine zl_nil ?_
        refine zk_seq ?_
        iterate 2 (refine zc_seq ?_)
        refine zc_region ?_
        refine zl_pureL rfl ?_
        refine z_len want_none (by decide) rfl ?_
        refine zl_pureL rfl ?_
        refine z_len want_none (by decide) rfl ?_
        refine z_cmpB (r := true) want_none (by decide) rfl rfl rfl (iff_of_true rfl (by omega)) ?_
        refine zl_nil ?_
        refine zk_seq ?_
        refine zc_true rfl ?_
        refine zc_seq ?_
        refine zc_region ?_
        refine zl_pureL rfl ?_
        refine zl_nil ?_
        refine zk_seq ?_
        refine zc_ret ?_
        refine zk_ret_then ?_
        exact zk_ret1 (.inr rfl) rfl rfl ⟨false, rfl, no_ (fun h => h0 (by rw [← h]; rfl)), Chg.refl _ _⟩
  | succ f ih =>
    intro w v1 v2 t1 t2 g1 g2 hf1 hf2 hs hf
    obtain ⟨A1, c1, hv1, hc1⟩ := g1.form
    obtain ⟨A2, c2, hv2, hc2⟩ := g2.form
    have hls := t1.len_size
    subst hv1; subst hv2
    refine calls_zc (n := 41) (f := 27) (fn := Try.f27) Try.func27 rfl rfl (by simp) ?_
    by_cases hll : t1.len = t2.len
    · refine zc_seq ?_
      refine zc_region ?_
      refine zl_pureL rfl ?_
      refine zl_nil ?_
      refine zk_seq ?_
      iterate 2 (refine zc_seq ?_)
      refine zc_region ?_
      refine zl_pureL rfl ?_
      refine z_len want_none (by decide) rfl ?_
      refine zl_pureL rfl ?_
      refine z_len want_none (by decide) rfl ?_
      refine z_cmpB (r := false) want_none (by decide) rfl rfl rfl (iff_of_false Bool.false_ne_true (by omega)) ?_
      refine zl_nil ?_
      refine zk_seq ?_
      refine zc_false rfl ?_
      refine zc_skip ?_
      refine zk_seq ?_
      iterate 2 (refine zc_seq ?_)
      refine zc_region ?_
      refine zl_pureL rfl ?_
      refine zl_nil ?_
      refine zk_seq ?_
      refine zc_block ?_
      refine zc_loopW (ι := Nat) (fun i u => [(0, .slice A1 t1.len c1), (1, .slice A2 t2.len c2), (5, .int .i64 i)])
        (fun i u => i ≤ t1.len ∧ (t1.dropN i = t2.dropN i ↔ t1 = t2) ∧ Chg w u No) (fun i u => t1.len - i) 0 ⟨Nat.zero_le _, Iff.rfl, Chg.refl _ _⟩ ?_ ?_
      · exact ⟨rfl, rfl, rfl, trivial⟩
      rintro i u ⟨hi, hd, hC⟩
      by_cases hlt : i < t1.len
      · obtain ⟨b, o, c', x, k, r, A', K, e1, hv, hN, hA, hK⟩ := (g1.no hC).at_ i hlt
        obtain ⟨b', o', c'', y, k', r', A'', K', e2, hv', hN', hA', hK'⟩ := (g2.no hC).at_ i (by omega)
        cases hv; cases hv'
        have hsz := t1.drop_size i
        rw [e1] at hsz
        simp only [NT.size] at hsz
        obtain ⟨hxa, hfk, hfr⟩ := hf1.drop t1 i x k r e1
        obtain ⟨hya, hfk', hfr'⟩ := hf2.drop t2 i y k' r' e2
        have hnx : ¬ (x = y ∧ k = k') → ¬ t1 = t2 := fun hn h => by
          rw [← hd, e1, e2] at h
          simp only [NT.cons.injEq] at h
          exact hn ⟨h.1, h.2.1⟩
        iterate 2 (refine zc_seq ?_)
        refine zc_region ?_
        iterate 2 (refine zl_pureL rfl ?_)
        refine z_len want_none (by decide) rfl ?_
        refine z_cmpB (r := true) want_none (by decide) rfl rfl rfl (iff_of_true rfl (by omega)) ?_
        refine zl_nil ?_
        refine zk_seq ?_
        refine zc_true rfl ?_
        refine zc_skip ?_
        refine zk_seq ?_
        refine zc_seq ?_
        refine zc_block ?_
        refine zc_seq ?_
        refine zc_draw [] (fun w' => Chg u w' No) (.take 0 (.take 1 (.take 2 (.take 3 (.take 4 (.take 5 (.take 6 (.take 7 (.all1 8 (.take 9 (.take 10 (.take 11 (.take 12 (.take 13 (.take 14 (.take 15 (.take 16 (.take 17 (.take 18 (.take 19 (.take 20 (.all1 21 (.take 22 (.take 23 (.fin))))))))))))))))))))))))) (by rfl) (by kernel_rfl) (by kernel_rfl) (fun w1 hC1 hH1 => ⟨?_, ?_⟩)
        · exact hC1
        iterate 2 (refine zs_take rfl (zt_pure rfl ?_))
        refine zs_rdL rfl want_none rfl (by decide) (fun _ hS => r_ia rfl rfl (by omega) (by omega)) ?_
        refine zs_rdL rfl (by first | exact want_none | exact want_L rfl) rfl (by decide) (fun _ hS => r_loadA (by rfl) rfl ((hN.no hS).agg (by omega))) ?_
        iterate 2 (refine zs_take rfl (zt_pure rfl ?_))
        refine zs_rdL rfl want_none rfl (by decide) (fun _ hS => r_ia rfl rfl (by omega) (by omega)) ?_
        refine zs_rdL rfl (by first | exact want_none | exact want_L rfl) rfl (by decide) (fun _ hS => r_loadA (by rfl) rfl ((hN'.no hS).agg (by omega))) ?_
        refine zs_call rfl (by first | exact want_none | exact want_L rfl) rfl (by decide) rfl (one_calls (hA.no hC1) (hA'.no hC1) (hK.no hC1) (hK'.no hC1) hxa hya) ?_
        rintro _ u2 ⟨q1, rfl, hq1, hC2⟩
        have hC2 := hC1.no hC2
        refine ⟨_, rfl, hC2, ?_⟩
        cases q1
        · iterate 4 (refine zs_take rfl (zt_pure rfl ?_))
          iterate 3 (refine zs_take rfl (zt_skip rfl ?_))
          iterate 2 (refine zs_take rfl (zt_pure rfl ?_))
          iterate 3 (refine zs_take rfl (zt_skip rfl ?_))
          refine zs_alone rfl (za_skip rfl ?_)
          iterate 2 (refine zs_take rfl (zt_pure rfl ?_))
          refine zs_fin ?_
          refine zk_seq ?_
          refine zc_true rfl ?_
          refine zc_seq ?_
          refine zc_region ?_
          refine zl_pureL rfl ?_
          refine zl_nil ?_
          refine zk_seq ?_
          refine zc_ret ?_
          refine zk_ret_block ?_
          iterate 2 (refine zk_ret_then ?_)
          refine zk_ret_block ?_
          refine zk_ret_then ?_
          exact zk_ret1 (.inr rfl) rfl rfl ⟨false, rfl, no_ (hnx (fun h => absurd (hq1.2 h.1) Bool.false_ne_true)), hC.no hC2⟩
        iterate 4 (refine zs_take rfl (zt_pure rfl ?_))
        refine zs_rdL rfl (want_L rfl) rfl (by decide) (fun _ hS => r_ia rfl rfl (by omega) (by omega)) ?_
        refine zs_rdL rfl (want_L rfl) rfl (by decide) (fun _ hS => r_fa rfl) ?_
        refine zs_rdL rfl (by first | exact want_none | exact want_L rfl) rfl (by decide) (fun _ hS => r_load1 rfl (cell_at (hN.no hS).c6 (by omega))) ?_
        iterate 2 (refine zs_take rfl (zt_pure rfl ?_))
        refine zs_rdL rfl (want_L rfl) rfl (by decide) (fun _ hS => r_ia rfl rfl (by omega) (by omega)) ?_
        refine zs_rdL rfl (want_L rfl) rfl (by decide) (fun _ hS => r_fa rfl) ?_
        refine zs_rdL rfl (by first | exact want_none | exact want_L rfl) rfl (by decide) (fun _ hS => r_load1 rfl (cell_at (hN'.no hS).c6 (by omega))) ?_
        skip
        refine zs_call rfl (by first | exact want_none | exact want_L rfl) rfl (by decide) rfl (ih (hK.no hC2) (hK'.no hC2) hfk hfk' (by omega) (by omega)) ?_
        rintro _ u3 ⟨q2, rfl, hq2, hC3⟩
        have hC3 := hC2.no hC3
        refine ⟨_, rfl, hC3, ?_⟩
        cases q2
        · iterate 2 (refine zs_take rfl (zt_pure rfl ?_))
          refine zs_fin ?_
          refine zk_seq ?_
          refine zc_true rfl ?_
          refine zc_seq ?_
          refine zc_region ?_
          refine zl_pureL rfl ?_
          refine zl_nil ?_
          refine zk_seq ?_
          refine zc_ret ?_
          refine zk_ret_block ?_
          iterate 2 (refine zk_ret_then ?_)
          refine zk_ret_block ?_
          refine zk_ret_then ?_
          exact zk_ret1 (.inr rfl) rfl rfl ⟨false, rfl, no_ (hnx (fun h => absurd (hq2.2 h.2) Bool.false_ne_true)), hC.no hC3⟩
        · iterate 2 (refine zs_take rfl (zt_pure rfl ?_))
          refine zs_fin ?_
          refine zk_seq ?_
          refine zc_false rfl ?_
          refine zc_skip ?_
          refine zk_norm_block ?_
          refine zk_seq ?_
          refine zc_region ?_
          refine zl_pureL rfl ?_
          refine z_add want_none (by decide) rfl rfl (by omega) (by omega) ?_
          refine zl_pureL rfl ?_
          refine zl_nil ?_
          exact zk_loopW (i + 1) ⟨by omega, drop_iff hd e1 e2 (hq1.1 rfl) (hq2.1 rfl), hC.no hC3⟩ (by omega) ⟨rfl, rfl, get_int rfl (by simp), trivial⟩
      · obtain rfl : i = t1.len := by omega
        rw [t1.drop_len, hll, t2.drop_len] at hd
        iterate 2 (refine zc_seq ?_)
        refine zc_region ?_
        iterate 2 (refine zl_pureL rfl ?_)
        refine z_len want_none (by decide) rfl ?_
        refine z_cmpB (r := false) want_none (by decide) rfl rfl rfl (iff_of_false Bool.false_ne_true (by omega)) ?_
        refine zl_nil ?_
        refine zk_seq ?_
        refine zc_false rfl ?_
        refine zc_exit ?_
        iterate 2 (refine zk_exit_then ?_)
        refine zk_exit_block ?_
        refine zk_seq ?_
        refine zc_seq ?_
        refine zc_region ?_
        refine zl_pureL rfl ?_
        refine zl_nil ?_
        refine zk_seq ?_
        refine zc_ret ?_
        exact zk_ret1 (.inr rfl) rfl rfl ⟨true, rfl, iff_of_true rfl (hd.1 rfl), hC⟩
    · refine zc_seq ?_
      refine zc_region ?_
      refine zl_pureL rfl ?_
      refine zl_nil ?_
      refine zk_seq ?_
      iterate 2 (refine zc_seq ?_)
      refine zc_region ?_
      refine zl_pureL rfl ?_
      refine z_len want_none (by decide) rfl ?_
      refine zl_pureL rfl ?_
      refine z_len want_none (by decide) rfl ?_
      refine z_cmpB (r := true) want_none (by decide) rfl rfl rfl (iff_of_true rfl (by omega)) ?_
      refine zl_nil ?_
      refine zk_seq ?_
      refine zc_true rfl ?_
      refine zc_seq ?_
      refine zc_region ?_
      refine zl_pureL rfl ?_
      refine zl_nil ?_
      refine zk_seq ?_
      refine zc_ret ?_
      refine zk_ret_then ?_
      exact zk_ret1 (.inr rfl) rfl rfl ⟨false, rfl, no_ (fun h => hll (by rw [h])), Chg.refl _ _⟩
end Go.Proofs.Ytjiehalanklapaa.D
