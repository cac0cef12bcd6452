import Derived.Test.YtjiehalanklapaaDTree
/- Deep (the document's), twice, once, sound, Sound. -/
namespace Go.Proofs.Ytjiehalanklapaa.D
open Go Go.Z Go.Proofs
set_option linter.unusedVariables false
set_option maxHeartbeats 2000000 in
theorem deepR_calls : ∀ (f : Nat) {w : World} {v : Value} {t : NT}, TreeAt w v t → t.size ≤ f → f ≤ 100000 →
    Calls Try.prog 40 [v].toArray w fun e w' => e = .returned (.int .i64 (deepT t)) ∧ Chg w w' No := by
  intro f
  induction f with
  | zero =>
    intro w v t h hs _
    cases t with
    | cons x k r => simp [NT.size] at hs
    | nil =>
      obtain ⟨A, c, rfl, hc⟩ := h.form
      refine calls_zc (n := 21) (f := 40) (fn := Try.f40) Try.func40 rfl rfl (by simp) ?_
      refine zc_seq ?_
      refine zc_region ?_
      refine zl_pureL rfl ?_
      refine zl_nil ?_
      refine zk_seq ?_
      refine zc_seq ?_
      refine zc_region ?_
      refine zl_pureL rfl ?_
      refine zl_nil ?_
      refine zk_seq ?_
      iterate 2 (refine zc_seq ?_)
      refine zc_region ?_
      refine zl_pureL rfl ?_
      refine zl_nil ?_
      refine zk_seq ?_
      refine zc_block ?_
      refine zc_loopW (ι := Nat) (fun i u => [(0, .slice A 0 c), (3, .int .i64 0), (4, .int .i64 0)]) (fun i u => u = w) (fun i u => 0) 0 rfl ?_ ?_
      · exact ⟨rfl, rfl, rfl, trivial⟩
      rintro i u rfl
      iterate 2 (refine zc_seq ?_)
      refine zc_region ?_
      iterate 2 (refine zl_pureL rfl ?_)
      refine z_len want_none (by decide) rfl ?_
      refine z_cmpB (r := false) want_none (by decide) rfl rfl rfl (iff_of_false Bool.false_ne_true (by omega)) ?_
      refine zl_nil ?_
      refine zk_seq ?_
      refine zc_false rfl ?_
      refine zc_exit ?_
      iterate 2 (refine zk_exit_then ?_)
      refine zk_exit_block ?_
      refine zk_seq ?_
      refine zc_seq ?_
      refine zc_region ?_
      iterate 2 (refine zl_pureL rfl ?_)
      refine zl_nil ?_
      refine zk_seq ?_
      refine zc_ret ?_
      exact zk_ret1 (.inr rfl) rfl rfl ⟨rfl, Chg.refl _ _⟩
  | succ f ih =>
    intro w v t h hs hf
    obtain ⟨A, c, hv, hc⟩ := h.form
    have hls := t.len_size
    subst hv
    refine calls_zc (n := 21) (f := 40) (fn := Try.f40) Try.func40 rfl rfl (by simp) ?_
    refine zc_seq ?_
    refine zc_region ?_
    refine zl_pureL rfl ?_
    refine zl_nil ?_
    refine zk_seq ?_
    refine zc_seq ?_
    refine zc_region ?_
    refine zl_pureL rfl ?_
    refine zl_nil ?_
    refine zk_seq ?_
    iterate 2 (refine zc_seq ?_)
    refine zc_region ?_
    refine zl_pureL rfl ?_
    refine zl_nil ?_
    refine zk_seq ?_
    refine zc_block ?_
    refine zc_loopW (ι := Nat × Nat) (fun q u => [(0, .slice A t.len c), (3, .int .i64 q.2), (4, .int .i64 q.1)])
      (fun q u => q.1 ≤ t.len ∧ q.2 ≤ t.size ∧ max q.2 (deepT (t.dropN q.1)) = deepT t ∧ Chg w u No) (fun q u => t.len - q.1) (0, 0) ⟨Nat.zero_le _, Nat.zero_le _, Nat.zero_max _, Chg.refl _ _⟩ ?_ ?_
    · exact ⟨rfl, rfl, rfl, trivial⟩
    rintro ⟨i, m⟩ u ⟨hi, hm, hd, hC⟩
    dsimp only at hi hm hd ⊢
    by_cases hlt : i < t.len
    · obtain ⟨b, o, c', x, k, r, A', K, e1, hv, hN, hA, hK⟩ := (h.no hC).at_ i hlt
      cases hv
      have hsz := t.drop_size i
      rw [e1] at hsz hd
      simp only [NT.size] at hsz
      have hdk := deepT_le k
      iterate 2 (refine zc_seq ?_)
      refine zc_region ?_
      iterate 2 (refine zl_pureL rfl ?_)
      refine z_len want_none (by decide) rfl ?_
      refine z_cmpB (r := true) want_none (by decide) rfl rfl rfl (iff_of_true rfl (by omega)) ?_
      refine zl_nil ?_
      refine zk_seq ?_
      refine zc_true rfl ?_
      refine zc_skip ?_
      refine zk_seq ?_
      refine zc_seq ?_
      refine zc_block ?_
      refine zc_region ?_
      iterate 3 (refine zl_pureL rfl ?_)
      refine z_ia want_none (by decide) rfl rfl (by omega) (by omega) ?_
      refine z_fa want_none (by decide) rfl ?_
      refine z_load1 (by first | exact want_none | exact want_L rfl) (by decide) rfl (cell_at hN.c6 (by omega)) ?_
      refine zl_call (by first | exact want_none | exact want_L rfl) rfl (by decide) rfl (ih hK (by omega) (by omega)) ?_
      rintro _ u3 ⟨rfl, hC3⟩
      refine ⟨_, rfl, ?_⟩
      refine z_add want_none (by decide) rfl rfl (by omega) (by omega) ?_
      refine z_max ((max m (1 + deepT k) : Nat) : Int) (by first | exact want_none | exact want_L rfl) (by decide) rfl rfl (by split <;> omega) ?_
      refine zl_pureL rfl ?_
      refine zl_nil ?_
      refine zk_norm_block ?_
      refine zk_seq ?_
      refine zc_region ?_
      refine zl_pureL rfl ?_
      refine z_add want_none (by decide) rfl rfl (by omega) (by omega) ?_
      refine zl_pureL rfl ?_
      refine zl_nil ?_
      refine zk_loopW (i + 1, max m (1 + deepT k)) ⟨by omega, by show max m (1 + deepT k) ≤ _; omega, ?_, hC.no hC3⟩ (by show t.len - (i + 1) < t.len - i; omega) ⟨rfl, rfl, get_int rfl (by simp), trivial⟩
      dsimp only
      rw [t.drop_succ i x k r e1, ← hd]
      simp only [deepT]; omega
    · obtain rfl : i = t.len := by omega
      rw [t.drop_len] at hd
      simp only [deepT, Nat.max_zero] at hd
      subst hd
      iterate 2 (refine zc_seq ?_)
      refine zc_region ?_
      iterate 2 (refine zl_pureL rfl ?_)
      refine z_len want_none (by decide) rfl ?_
      refine z_cmpB (r := false) want_none (by decide) rfl rfl rfl (iff_of_false Bool.false_ne_true (by omega)) ?_
      refine zl_nil ?_
      refine zk_seq ?_
      refine zc_false rfl ?_
      refine zc_exit ?_
      iterate 2 (refine zk_exit_then ?_)
      refine zk_exit_block ?_
      refine zk_seq ?_
      refine zc_seq ?_
      refine zc_region ?_
      iterate 2 (refine zl_pureL rfl ?_)
      refine zl_nil ?_
      refine zk_seq ?_
      refine zc_ret ?_
      exact zk_ret1 (.inr rfl) rfl rfl ⟨rfl, hC⟩
/-! an attribute twice -/
def Tw (l : List At) : Prop := ∃ i k, k < i ∧ i < l.length ∧ (l.getD i at0).1 = (l.getD k at0).1
def TwN (l : List At) (n : Nat) : Prop := ∃ i k, k < i ∧ i < n ∧ (l.getD i at0).1 = (l.getD k at0).1
theorem TwN.succ {l : List At} {i : Nat} (h : ¬ TwN l i) (h2 : ∀ k, k < i → (l.getD i at0).1 ≠ (l.getD k at0).1) : ¬ TwN l (i + 1) := by
  rintro ⟨a, k, h3, h4, h5⟩
  by_cases he : a = i
  · subst he; exact h2 k h3 h5
  · exact h ⟨a, k, h3, by omega, h5⟩
set_option maxHeartbeats 2000000 in
theorem twice_calls {w : World} {v : Value} {l : List At} (h : AttrS w v l) (hl : l.length ≤ 100000) :
    Calls Try.prog 73 [v].toArray w fun e w' => ∃ q, e = .returned (.bool q) ∧ (q = true ↔ Tw l) ∧ Chg w w' No := by
  obtain ⟨A, c, hv, hc⟩ := h.form
  subst hv
  refine calls_zc (n := 29) (f := 73) (fn := Try.f73) Try.func73 rfl rfl (by simp) ?_
  refine zc_seq ?_
  refine zc_region ?_
  refine zl_pureL rfl ?_
  refine zl_nil ?_
  refine zk_seq ?_
  iterate 2 (refine zc_seq ?_)
  refine zc_region ?_
  refine zl_pureL rfl ?_
  refine z_len want_none (by decide) rfl ?_
  refine zl_pureL rfl ?_
  refine zl_nil ?_
  refine zk_seq ?_
  refine zc_block ?_
  refine zc_loopW (ι := Nat) (fun i u => [(0, .slice A l.length c), (7, .slice A l.length c), (8, .int .i64 l.length), (9, .int .i64 i)]) (fun i u => i ≤ l.length ∧ ¬ TwN l i ∧ Chg w u No) (fun i u => l.length - i) 0
    ⟨Nat.zero_le _, fun ⟨a, k, h1, h2, _⟩ => by omega, Chg.refl _ _⟩ ?_ ?_
  · exact ⟨rfl, rfl, rfl, rfl, trivial⟩
  rintro i u ⟨hi, hT, hC⟩
  by_cases hlt : i < l.length
  · obtain ⟨b, o, c', hv, g0, g1⟩ := (h.no hC).at_ i hlt
    cases hv
    refine zc_seq ?_
    refine zc_region ?_
    refine z_cmpB (r := true) want_none (by decide) rfl rfl rfl (iff_of_true rfl (by omega)) ?_
    refine zl_nil ?_
    refine zk_seq ?_
    refine zc_seq ?_
    refine zc_true rfl ?_
    refine zc_skip ?_
    refine zk_seq ?_
    refine zc_seq ?_
    refine zc_block ?_
    refine zc_seq ?_
    refine zc_region ?_
    refine zl_pureL rfl ?_
    refine z_ia want_none (by decide) rfl rfl (by omega) (by omega) ?_
    refine z_loadA (by rfl) (by first | exact want_none | exact want_L rfl) (by decide) rfl (agg2 g0 g1 (by omega)) ?_
    refine z_alloc (by first | exact want_none | exact want_L rfl) (by decide) (fun u1 b1 hN1 => ?_)
    have hb1 : Blk u1 b1 45 [.string ⟨#[]⟩, .string ⟨#[]⟩] := hN1.blk
    refine zl_pureL rfl ?_
    refine z_store (by first | exact want_none | exact want_L rfl) rfl rfl rfl (by assumption) (by first | exact Nat.le_refl _ | simp [Value.cells]) (by simp [Value.cells, Value.oneCell']) (fun u2 hU2 => ?_)
    have hb2 : Blk u2 b1 45 [.string (l.getD i at0).1, .string (l.getD i at0).2] := hU2.blk
    have hC2 := hC.no (hN1.chg.upd hU2 (hN1.ge (Chg.refl _ No)))
    refine zl_nil ?_
    refine zk_seq ?_
    refine zc_seq ?_
    refine zc_region ?_
    iterate 2 (refine zl_pureL rfl ?_)
    refine zl_run (by first | exact want_none | exact want_L rfl) rfl (by decide) (r_cutTo (k := i) (.inr ⟨_, _, rfl⟩) rfl rfl (by omega)) ?_
    refine z_len want_none (by decide) rfl ?_
    refine zl_pureL rfl ?_
    refine zl_nil ?_
    refine zk_seq ?_
    refine zc_block ?_
    refine zc_loopW (ι := Nat) (fun j u => [(0, .slice (some ⟨b, o, none⟩) l.length c), (7, .slice (some ⟨b, o, none⟩) l.length c), (8, .int .i64 l.length), (9, .int .i64 i), (4, .pointer (some ⟨b1, 0, none⟩)), (16, .slice (some ⟨b, o, none⟩) i c), (17, .int .i64 i), (18, .int .i64 j)])
      (fun j u' => j ≤ i ∧ (∀ k, k < j → (l.getD i at0).1 ≠ (l.getD k at0).1) ∧ Chg u2 u' No) (fun j u => i - j) 0 ⟨Nat.zero_le _, fun k hk => by omega, Chg.refl _ _⟩ ?_ ?_
    · exact ⟨rfl, rfl, rfl, rfl, rfl, rfl, rfl, rfl, trivial⟩
    rintro j u3 ⟨hj, hn, hC3⟩
    by_cases hjl : j < i
    · obtain ⟨b', o', c'', hv', g0', g1'⟩ := ((h.no hC2).no hC3).at_ j (by omega)
      cases hv'
      have hb3 := hb2.no hC3
      refine zc_seq ?_
      refine zc_region ?_
      refine z_cmpB (r := true) want_none (by decide) rfl rfl rfl (iff_of_true rfl (by omega)) ?_
      refine zl_nil ?_
      refine zk_seq ?_
      refine zc_seq ?_
      refine zc_true rfl ?_
      refine zc_skip ?_
      refine zk_seq ?_
      refine zc_seq ?_
      refine zc_block ?_
      refine zc_seq ?_
      refine zc_region ?_
      refine z_ia want_none (by decide) rfl rfl (by omega) (by omega) ?_
      refine z_loadA (by rfl) (by first | exact want_none | exact want_L rfl) (by decide) rfl (agg2 g0' g1' (by omega)) ?_
      refine z_alloc (by first | exact want_none | exact want_L rfl) (by decide) (fun u4 b4 hN4 => ?_)
      have hb4 : Blk u4 b4 45 [.string ⟨#[]⟩, .string ⟨#[]⟩] := hN4.blk
      have hb3' := hb3.no hN4.chg
      skip
      refine z_store (by first | exact want_none | exact want_L rfl) rfl rfl rfl (by assumption) (by first | exact Nat.le_refl _ | simp [Value.cells]) (by simp [Value.cells, Value.oneCell']) (fun u5 hU5 => ?_)
      have hb5 : Blk u5 b4 45 [.string (l.getD j at0).1, .string (l.getD j at0).2] := hU5.blk
      have hb6 := hb3'.chg hU5.chg (fun he => by have := hb3.lt; have := hN4.at_; omega)
      have hC5 := hC3.no (hN4.chg.upd hU5 (hN4.ge (Chg.refl _ No)))
      refine zl_nil ?_
      refine zk_seq ?_
      refine zc_seq ?_
      refine zc_region ?_
      refine z_fa want_none (by decide) rfl ?_
      refine z_loadB want_none (by decide) rfl (by assumption) (by rfl) ?_
      refine z_fa want_none (by decide) rfl ?_
      refine z_loadB want_none (by decide) rfl (by assumption) (by rfl) ?_
      refine z_eqS (by first | exact want_none | exact want_L rfl) (by decide) rfl rfl (fun hc => ?_) (fun hc => ?_)
      · refine zl_nil ?_
        refine zk_seq ?_
        refine zc_true rfl ?_
        refine zc_seq ?_
        refine zc_region ?_
        refine zl_pureL rfl ?_
        refine zl_nil ?_
        refine zk_seq ?_
        refine zc_ret ?_
        refine zk_ret_block ?_
        iterate 2 (refine zk_ret_then ?_)
        iterate 2 (refine zk_ret_block ?_)
        iterate 2 (refine zk_ret_then ?_)
        refine zk_ret_block ?_
        refine zk_ret_then ?_
        exact zk_ret1 (.inr rfl) rfl rfl ⟨true, rfl, iff_of_true rfl ⟨i, j, hjl, hlt, by assumption⟩, hC2.no hC5⟩
      · refine zl_nil ?_
        refine zk_seq ?_
        refine zc_false rfl ?_
        refine zc_skip ?_
        refine zk_norm_block ?_
        refine zk_seq ?_
        refine zc_region ?_
        refine z_add want_none (by decide) rfl rfl (by omega) (by omega) ?_
        refine zl_pureL rfl ?_
        refine zl_nil ?_
        refine zk_loopW (j + 1) ⟨by omega, fun k hk => ?_, hC5⟩ (by omega) ⟨rfl, rfl, rfl, rfl, rfl, rfl, rfl, get_int rfl (by simp), trivial⟩
        by_cases he : k = j
        · subst he; assumption
        · exact hn k (by omega)
    · obtain rfl : j = i := by omega
      refine zc_seq ?_
      refine zc_region ?_
      refine z_cmpB (r := false) want_none (by decide) rfl rfl rfl (iff_of_false Bool.false_ne_true (by omega)) ?_
      refine zl_nil ?_
      refine zk_seq ?_
      refine zc_seq ?_
      refine zc_false rfl ?_
      refine zc_exit ?_
      iterate 2 (refine zk_exit_then ?_)
      refine zk_exit_block ?_
      refine zk_norm_block ?_
      refine zk_seq ?_
      refine zc_region ?_
      refine z_add want_none (by decide) rfl rfl (by omega) (by omega) ?_
      refine zl_pureL rfl ?_
      refine zl_nil ?_
      exact zk_loopW (j + 1) ⟨by omega, TwN.succ hT hn, hC2.no hC3⟩ (by omega) ⟨rfl, rfl, rfl, get_int rfl (by simp), trivial⟩
  · obtain rfl : i = l.length := by omega
    refine zc_seq ?_
    refine zc_region ?_
    refine z_cmpB (r := false) want_none (by decide) rfl rfl rfl (iff_of_false Bool.false_ne_true (by omega)) ?_
    refine zl_nil ?_
    refine zk_seq ?_
    refine zc_seq ?_
    refine zc_false rfl ?_
    refine zc_exit ?_
    iterate 2 (refine zk_exit_then ?_)
    refine zk_exit_block ?_
    refine zk_seq ?_
    refine zc_seq ?_
    refine zc_region ?_
    refine zl_pureL rfl ?_
    refine zl_nil ?_
    refine zk_seq ?_
    refine zc_ret ?_
    exact zk_ret1 (.inr rfl) rfl rfl ⟨false, rfl, iff_of_false Bool.false_ne_true hT, hC⟩
set_option maxHeartbeats 2000000 in
theorem once_calls {w : World} {v : Value} {l : List At} (h : AttrS w v l) (hl : l.length ≤ 100000) :
    Calls Try.prog 67 [v].toArray w fun e w' => ∃ q, e = .returned (.bool q) ∧ (q = true ↔ ¬ Tw l) ∧ Chg w w' No := by
  obtain ⟨A, c, hv, hc⟩ := h.form
  subst hv
  refine calls_zc (n := 27) (f := 67) (fn := Try.f67) Try.func67 rfl rfl (by simp) ?_
  refine zc_seq ?_
  refine zc_region ?_
  refine zl_pureL rfl ?_
  refine zl_nil ?_
  refine zk_seq ?_
  iterate 2 (refine zc_seq ?_)
  refine zc_region ?_
  refine zl_pureL rfl ?_
  refine zl_nil ?_
  refine zk_seq ?_
  refine zc_block ?_
  refine zc_loopW (ι := Nat) (fun i u => [(0, .slice A l.length c), (3, .int .i64 i)]) (fun i u => i ≤ l.length ∧ ¬ TwN l i ∧ Chg w u No) (fun i u => l.length - i) 0
    ⟨Nat.zero_le _, fun ⟨a, k, h1, h2, _⟩ => by omega, Chg.refl _ _⟩ ?_ ?_
  · exact ⟨rfl, rfl, trivial⟩
  rintro i u ⟨hi, hT, hC⟩
  by_cases hlt : i < l.length
  · iterate 2 (refine zc_seq ?_)
    refine zc_region ?_
    iterate 2 (refine zl_pureL rfl ?_)
    refine z_len want_none (by decide) rfl ?_
    refine z_cmpB (r := true) want_none (by decide) rfl rfl rfl (iff_of_true rfl (by omega)) ?_
    refine zl_nil ?_
    refine zk_seq ?_
    refine zc_true rfl ?_
    refine zc_skip ?_
    refine zk_seq ?_
    refine zc_seq ?_
    refine zc_block ?_
    refine zc_seq ?_
    refine zc_region ?_
    refine zl_pureL rfl ?_
    refine zl_nil ?_
    refine zk_seq ?_
    refine zc_block ?_
    refine zc_loopW (ι := Nat) (fun j u => [(0, .slice A l.length c), (3, .int .i64 i), (4, .int .i64 j)])
      (fun j u' => j ≤ i ∧ (∀ k, k < j → (l.getD i at0).1 ≠ (l.getD k at0).1) ∧ Chg w u' No) (fun j u => i - j) 0 ⟨Nat.zero_le _, fun k hk => by omega, hC⟩ ?_ ?_
    · exact ⟨rfl, rfl, rfl, trivial⟩
    rintro j u3 ⟨hj, hn, hC3⟩
    by_cases hjl : j < i
    · obtain ⟨b, o, c', hv, g0, g1⟩ := (h.no hC3).at_ i hlt
      obtain ⟨b', o', c'', hv', g0', g1'⟩ := (h.no hC3).at_ j (by omega)
      cases hv; cases hv'
      iterate 2 (refine zc_seq ?_)
      refine zc_region ?_
      iterate 2 (refine zl_pureL rfl ?_)
      refine z_cmpB (r := true) want_none (by decide) rfl rfl rfl (iff_of_true rfl (by omega)) ?_
      refine zl_nil ?_
      refine zk_seq ?_
      refine zc_true rfl ?_
      refine zc_skip ?_
      refine zk_seq ?_
      refine zc_seq ?_
      refine zc_block ?_
      refine zc_seq ?_
      refine zc_draw [] (fun w' => Chg u3 w' No) (.take 0 (.take 1 (.take 2 (.take 3 (.take 4 (.take 5 (.take 6 (.take 7 (.take 8 (.take 9 (.take 10 (.fin)))))))))))) (by rfl) (by kernel_rfl) (by kernel_rfl) (fun w1 hC1 hH1 => ⟨?_, ?_⟩)
      · exact hC1
      iterate 2 (refine zs_take rfl (zt_pure rfl ?_))
      refine zs_rdL rfl want_none rfl (by decide) (fun _ hS => r_ia rfl rfl (by omega) (by omega)) ?_
      refine zs_rdL rfl want_none rfl (by decide) (fun _ hS => r_fa rfl) ?_
      refine zs_rdL rfl (by first | exact want_none | exact want_L rfl) rfl (by decide) (fun _ hS => r_load1 rfl (cell_at (cell_no hS g0) (by omega))) ?_
      iterate 2 (refine zs_take rfl (zt_pure rfl ?_))
      refine zs_rdL rfl want_none rfl (by decide) (fun _ hS => r_ia rfl rfl (by omega) (by omega)) ?_
      refine zs_rdL rfl want_none rfl (by decide) (fun _ hS => r_fa rfl) ?_
      refine zs_rdL rfl (by first | exact want_none | exact want_L rfl) rfl (by decide) (fun _ hS => r_load1 rfl (cell_at (cell_no hS g0') (by omega))) ?_
      refine zs_eqS rfl (by first | exact want_none | exact want_L rfl) (by decide) rfl rfl (fun hc => ?_) (fun hc => ?_)
      · refine zs_fin ?_
        refine zk_seq ?_
        refine zc_true rfl ?_
        refine zc_seq ?_
        refine zc_region ?_
        refine zl_pureL rfl ?_
        refine zl_nil ?_
        refine zk_seq ?_
        refine zc_ret ?_
        refine zk_ret_block ?_
        iterate 2 (refine zk_ret_then ?_)
        iterate 2 (refine zk_ret_block ?_)
        iterate 2 (refine zk_ret_then ?_)
        refine zk_ret_block ?_
        refine zk_ret_then ?_
        exact zk_ret1 (.inr rfl) rfl rfl ⟨false, rfl, iff_of_false Bool.false_ne_true (fun hq => hq ⟨i, j, hjl, hlt, by assumption⟩), hC3.no hC1⟩
      · refine zs_fin ?_
        refine zk_seq ?_
        refine zc_false rfl ?_
        refine zc_skip ?_
        refine zk_norm_block ?_
        refine zk_seq ?_
        refine zc_region ?_
        refine zl_pureL rfl ?_
        refine z_add want_none (by decide) rfl rfl (by omega) (by omega) ?_
        refine zl_pureL rfl ?_
        refine zl_nil ?_
        refine zk_loopW (j + 1) ⟨by omega, fun k hk => ?_, hC3.no hC1⟩ (by omega) ⟨rfl, rfl, get_int rfl (by simp), trivial⟩
        by_cases he : k = j
        · subst he; assumption
        · exact hn k (by omega)
    · obtain rfl : j = i := by omega
      iterate 2 (refine zc_seq ?_)
      refine zc_region ?_
      iterate 2 (refine zl_pureL rfl ?_)
      refine z_cmpB (r := false) want_none (by decide) rfl rfl rfl (iff_of_false Bool.false_ne_true (by omega)) ?_
      refine zl_nil ?_
      refine zk_seq ?_
      refine zc_false rfl ?_
      refine zc_exit ?_
      iterate 2 (refine zk_exit_then ?_)
      refine zk_exit_block ?_
      refine zk_norm_block ?_
      refine zk_seq ?_
      refine zc_region ?_
      refine zl_pureL rfl ?_
      refine z_add want_none (by decide) rfl rfl (by omega) (by omega) ?_
      refine zl_pureL rfl ?_
      refine zl_nil ?_
      exact zk_loopW (j + 1) ⟨by omega, TwN.succ hT hn, hC3⟩ (by omega) ⟨rfl, get_int rfl (by simp), trivial⟩
  · obtain rfl : i = l.length := by omega
    iterate 2 (refine zc_seq ?_)
    refine zc_region ?_
    iterate 2 (refine zl_pureL rfl ?_)
    refine z_len want_none (by decide) rfl ?_
    refine z_cmpB (r := false) want_none (by decide) rfl rfl rfl (iff_of_false Bool.false_ne_true (by omega)) ?_
    refine zl_nil ?_
    refine zk_seq ?_
    refine zc_false rfl ?_
    refine zc_exit ?_
    iterate 2 (refine zk_exit_then ?_)
    refine zk_exit_block ?_
    refine zk_seq ?_
    refine zc_seq ?_
    refine zc_region ?_
    refine zl_pureL rfl ?_
    refine zl_nil ?_
    refine zk_seq ?_
    refine zc_ret ?_
    exact zk_ret1 (.inr rfl) rfl rfl ⟨true, rfl, iff_of_true rfl hT, hC⟩
end Go.Proofs.Ytjiehalanklapaa.D
