import Derived.Test.YteeibieaapiomaaDTree
/- Deep (the document's), twice, once, sound, Sound. -/
namespace Go.Proofs.Yteeibieaapiomaa.D
open Go Go.Z Go.Proofs
set_option linter.unusedVariables false
set_option maxHeartbeats 2000000 in
theorem deepR_calls : ∀ (f : Nat) {w : World} {v : Value} {t : NT}, TreeAt w v t → t.size ≤ f → f ≤ 100000 →
    Calls Try.prog 41 [v].toArray w fun e w' => e = .returned (.int .i64 (deepT t)) ∧ Chg w w' No := by
  intro f
  induction f with
  | zero =>
    intro w v t h hs _
    cases t with
    | cons x k r => simp [NT.size] at hs
    | nil =>
      obtain ⟨A, c, rfl, hc⟩ := h.form
      refine calls_zc (n := 21) (f := 41) (fn := Try.f41) Try.func41 rfl rfl (by simp) ?_
      refine zc_seq ?_
      refine zc_region ?_
      refine zl_pureL rfl ?_
      refine zl_nil ?_
      refine zk_seq ?_
      refine zc_seq ?_
      refine zc_region ?_
      refine zl_pureL rfl ?_
      refine zl_nil ?_
      refine zk_seq ?_
      iterate 2 (refine zc_seq ?_)
      refine zc_region ?_
      refine zl_pureL rfl ?_
      refine zl_nil ?_
      refine zk_seq ?_
      refine zc_block ?_
      refine zc_loopW (ι := Nat) (fun i u => [(0, .slice A 0 c), (3, .int .i64 0), (4, .int .i64 0)]) (fun i u => u = w) (fun i u => 0) 0 rfl ?_ ?_
      · exact ⟨rfl, rfl, rfl, trivial⟩
      rintro i u rfl
      iterate 2 (refine zc_seq ?_)
      refine zc_region ?_
      iterate 2 (refine zl_pureL rfl ?_)
      refine z_len want_none (by decide) rfl ?_
      refine z_cmpB (r := false) want_none (by decide) rfl rfl rfl (iff_of_false Bool.false_ne_true (by omega)) ?_
      refine zl_nil ?_
      refine zk_seq ?_
      refine zc_false rfl ?_
      refine zc_exit ?_
      iterate 2 (refine zk_exit_then ?_)
      refine zk_exit_block ?_
      refine zk_seq ?_
      refine zc_seq ?_
      refine zc_region ?_
      iterate 2 (refine zl_pureL rfl ?_)
      refine zl_nil ?_
      refine zk_seq ?_
      refine zc_ret ?_
      exact zk_ret1 (.inr rfl) rfl rfl ⟨rfl, Chg.refl _ _⟩
  | succ f ih =>
    intro w v t h hs hf
    obtain ⟨A, c, hv, hc⟩ := h.form
    have hls := t.len_size
    subst hv
    refine calls_zc (n := 21) (f := 41) (fn := Try.f41) Try.func41 rfl rfl (by simp) ?_
    refine zc_seq ?_
    refine zc_region ?_
    refine zl_pureL rfl ?_
    refine zl_nil ?_
    refine zk_seq ?_
    refine zc_seq ?_
    refine zc_region ?_
    refine zl_pureL rfl ?_
    refine zl_nil ?_
    refine zk_seq ?_
    iterate 2 (refine zc_seq ?_)
    refine zc_region ?_
    refine zl_pureL rfl ?_
    refine zl_nil ?_
    refine zk_seq ?_
    refine zc_block ?_
    refine zc_loopW (ι := Nat × Nat) (fun q u => [(0, .slice A t.len c), (3, .int .i64 q.2), (4, .int .i64 q.1)])
      (fun q u => q.1 ≤ t.len ∧ q.2 ≤ t.size ∧ max q.2 (deepT (t.dropN q.1)) = deepT t ∧ Chg w u No) (fun q u => t.len - q.1) (0, 0) ⟨Nat.zero_le _, Nat.zero_le _, Nat.zero_max _, Chg.refl _ _⟩ ?_ ?_
    · exact ⟨rfl, rfl, rfl, trivial⟩
    rintro ⟨i, m⟩ u ⟨hi, hm, hd, hC⟩
    dsimp only at hi hm hd ⊢
    by_cases hlt : i < t.len
    · obtain ⟨b, o, c', x, k, r, A', K, e1, hv, hN, hA, hK⟩ := (h.no hC).at_ i hlt
      cases hv
      have hsz := t.drop_size i
      rw [e1] at hsz hd
      simp only [NT.size] at hsz
      have hdk := deepT_le k
      iterate 2 (refine zc_seq ?_)
      refine zc_region ?_
      iterate 2 (refine zl_pureL rfl ?_)
      refine z_len want_none (by decide) rfl ?_
      refine z_cmpB (r := true) want_none (by decide) rfl rfl rfl (iff_of_true rfl (by omega)) ?_
      refine zl_nil ?_
      refine zk_seq ?_
      refine zc_true rfl ?_
      refine zc_skip ?_
      refine zk_seq ?_
      refine zc_seq ?_
      refine zc_block ?_
      refine zc_region ?_
      iterate 3 (refine zl_pureL rfl ?_)
      refine z_ia want_none (by decide) rfl rfl (by omega) (by omega) ?_
      refine z_fa want_none (by decide) rfl ?_
      refine z_load1 (by first | exact want_none | exact want_L rfl) (by decide) rfl (cell_at hN.c6 (by omega)) ?_
      refine zl_call (by first | exact want_none | exact want_L rfl) rfl (by decide) rfl (ih hK (by omega) (by omega)) ?_
      rintro _ u3 ⟨rfl, hC3⟩
      refine ⟨_, rfl, ?_⟩
      refine z_add want_none (by decide) rfl rfl (by omega) (by omega) ?_
      refine z_max ((max m (1 + deepT k) : Nat) : Int) (by first | exact want_none | exact want_L rfl) (by decide) rfl rfl (by split <;> omega) ?_
      refine zl_pureL rfl ?_
      refine zl_nil ?_
      refine zk_norm_block ?_
      refine zk_seq ?_
      refine zc_region ?_
      refine zl_pureL rfl ?_
      refine z_add want_none (by decide) rfl rfl (by omega) (by omega) ?_
      refine zl_pureL rfl ?_
      refine zl_nil ?_
      refine zk_loopW (i + 1, max m (1 + deepT k)) ⟨by omega, by show max m (1 + deepT k) ≤ _; omega, ?_, hC.no hC3⟩ (by show t.len - (i + 1) < t.len - i; omega) ⟨rfl, rfl, get_int rfl (by simp), trivial⟩
      dsimp only
      rw [t.drop_succ i x k r e1, ← hd]
      simp only [deepT]; omega
    · obtain rfl : i = t.len := by omega
      rw [t.drop_len] at hd
      simp only [deepT, Nat.max_zero] at hd
      subst hd
      iterate 2 (refine zc_seq ?_)
      refine zc_region ?_
      iterate 2 (refine zl_pureL rfl ?_)
      refine z_len want_none (by decide) rfl ?_
      refine z_cmpB (r := false) want_none (by decide) rfl rfl rfl (iff_of_false Bool.false_ne_true (by omega)) ?_
      refine zl_nil ?_
      refine zk_seq ?_
      refine zc_false rfl ?_
      refine zc_exit ?_
      iterate 2 (refine zk_exit_then ?_)
      refine zk_exit_block ?_
      refine zk_seq ?_
      refine zc_seq ?_
      refine zc_region ?_
      iterate 2 (refine zl_pureL rfl ?_)
      refine zl_nil ?_
      refine zk_seq ?_
      refine zc_ret ?_
      exact zk_ret1 (.inr rfl) rfl rfl ⟨rfl, hC⟩
/-! an attribute twice -/
def Tw (l : List At) : Prop := ∃ i k, k < i ∧ i < l.length ∧ (l.getD i at0).1 = (l.getD k at0).1
def TwN (l : List At) (n : Nat) : Prop := ∃ i k, k < i ∧ i < n ∧ (l.getD i at0).1 = (l.getD k at0).1
theorem TwN.succ {l : List At} {i : Nat} (h : ¬ TwN l i) (h2 : ∀ k, k < i → (l.getD i at0).1 ≠ (l.getD k at0).1) : ¬ TwN l (i + 1) := by
  rintro ⟨a, k, h3, h4, h5⟩
  by_cases he : a = i
  · subst he; exact h2 k h3 h5
  · exact h ⟨a, k, h3, by omega, h5⟩
end Go.Proofs.Yteeibieaapiomaa.D
