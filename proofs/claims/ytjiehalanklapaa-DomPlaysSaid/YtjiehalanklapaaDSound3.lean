import Derived.Test.YtjiehalanklapaaDSound2
/- The document's Sound. -/
namespace Go.Proofs.Ytjiehalanklapaa.D
open Go Go.Z Go.Proofs
set_option linter.unusedVariables false
theorem SoundF.k0 {k : NT} (h : k.len = 0) : SoundF false k := by rw [len0 h]; trivial
set_option maxHeartbeats 8000000 in
theorem soundR_calls : ∀ (f : Nat) {w : World} {v : Value} {t : NT}, TreeAt w v t → FewT t → t.size ≤ f → f ≤ 100000 →
    Calls Try.prog 39 [v].toArray w fun e w' => ∃ q, e = .returned (.bool q) ∧ (q = true ↔ SoundF false t) ∧ Chg w w' No := by
  intro f
  induction f with
  | zero =>
    intro w v t h hfew hs _
    cases t with
    | cons x k r => simp [NT.size] at hs
    | nil =>
      obtain ⟨A, c, rfl, hc⟩ := h.form
      refine calls_zc (n := 122) (f := 39) (fn := Try.f39) Try.func39 rfl rfl (by simp) ?_
      refine zc_seq ?_
      refine zc_region ?_
      refine zl_pureL rfl ?_
      refine zl_nil ?_
      refine zk_seq ?_
      iterate 2 (refine zc_seq ?_)
      refine zc_region ?_
      refine zl_pureL rfl ?_
      refine zl_nil ?_
      refine zk_seq ?_
      refine zc_block ?_
      refine zc_loopW (ι := Nat) (fun i u => [(0, .slice A 0 c), (3, .int .i64 0)]) (fun i u => u = w) (fun i u => 0) 0 rfl ?_ ?_
      · exact ⟨rfl, rfl, trivial⟩
      rintro i u rfl
      iterate 2 (refine zc_seq ?_)
      refine zc_region ?_
      iterate 2 (refine zl_pureL rfl ?_)
      refine z_len want_none (by decide) rfl ?_
      refine z_cmpB (r := false) want_none (by decide) rfl rfl rfl (iff_of_false Bool.false_ne_true (by omega)) ?_
      refine zl_nil ?_
      refine zk_seq ?_
      refine zc_false rfl ?_
      refine zc_exit ?_
      iterate 2 (refine zk_exit_then ?_)
      refine zk_exit_block ?_
      refine zk_seq ?_
      refine zc_seq ?_
      refine zc_region ?_
      refine zl_pureL rfl ?_
      refine zl_nil ?_
      refine zk_seq ?_
      refine zc_ret ?_
      exact zk_ret1 (.inr rfl) rfl rfl ⟨true, rfl, iff_of_true rfl trivial, Chg.refl _ _⟩
  | succ f ih =>
    intro w v t h hfew hs hf
    obtain ⟨A, c, hv, hc⟩ := h.form
    have hls := t.len_size
    subst hv
    have no : ∀ {p : Prop}, ¬ p → ((false : Bool) = true ↔ p) := fun h => iff_of_false Bool.false_ne_true h
    refine calls_zc (n := 122) (f := 39) (fn := Try.f39) Try.func39 rfl rfl (by simp) ?_
    refine zc_seq ?_
    refine zc_region ?_
    refine zl_pureL rfl ?_
    refine zl_nil ?_
    refine zk_seq ?_
    iterate 2 (refine zc_seq ?_)
    refine zc_region ?_
    refine zl_pureL rfl ?_
    refine zl_nil ?_
    refine zk_seq ?_
    refine zc_block ?_
    refine zc_loopW (ι := Nat) (fun i u => [(0, .slice A t.len c), (3, .int .i64 i)])
      (fun i u => i ≤ t.len ∧ (SoundF (prevB t i) (t.dropN i) ↔ SoundF false t) ∧ Chg w u No) (fun i u => t.len - i) 0 ⟨Nat.zero_le _, Iff.rfl, Chg.refl _ _⟩ ?_ ?_
    · exact ⟨rfl, rfl, trivial⟩
    rintro i u ⟨hi, hd, hC⟩
    by_cases hlt : i < t.len
    · obtain ⟨b, o, c', x, k, r, A', K, e1, hv, hN, hA, hK⟩ := (h.no hC).at_ i hlt
      cases hv
      have hsz := t.drop_size i
      rw [e1] at hsz hd
      simp only [NT.size] at hsz
      obtain ⟨hxa, hfk, hfr⟩ := hfew.drop t i x k r e1
      have hkl := k.len_size
      obtain ⟨A2, c2, rfl, _⟩ := hA.form
      obtain ⟨A3, c3, rfl, _⟩ := hK.form
      have hnext : sound1 x k → SoundF false k → ¬ (prevB t i = true ∧ x.kind = 2) → (SoundF (prevB t (i + 1)) (t.dropN (i + 1)) ↔ SoundF false t) := fun s1 s2 hn => by
        rw [t.drop_succ i x k r e1, ← hd, prevB_succ e1]
        exact ⟨fun h => ⟨s1, s2, hn, h⟩, fun h => h.2.2.2⟩
      have bad : ¬ sound1 x k → ¬ SoundF false t := fun hb hh => hb (hd.2 hh).1
      have bad2 : ∀ {p : Prop}, (sound1 x k → p) → ¬ p → ¬ SoundF false t := fun h1 h2 hh => h2 (h1 (hd.2 hh).1)
      iterate 2 (refine zc_seq ?_)
      refine zc_region ?_
      iterate 2 (refine zl_pureL rfl ?_)
      refine z_len want_none (by decide) rfl ?_
      refine z_cmpB (r := true) want_none (by decide) rfl rfl rfl (iff_of_true rfl (by omega)) ?_
      refine zl_nil ?_
      refine zk_seq ?_
      refine zc_true rfl ?_
      refine zc_skip ?_
      refine zk_seq ?_
      refine zc_seq ?_
      refine zc_block ?_
      refine zc_seq ?_
      refine zc_region ?_
      iterate 2 (refine zl_pureL rfl ?_)
      refine z_ia want_none (by decide) rfl rfl (by omega) (by omega) ?_
      refine z_loadA (by rfl) (by first | exact want_none | exact want_L rfl) (by decide) rfl (hN.agg (by omega)) ?_
      refine z_alloc (by first | exact want_none | exact want_L rfl) (by decide) (fun u1 b1 hN1 => ?_)
      have hb1 : Blk u1 b1 48 [.int .i64 0, .int .i64 0, .string ⟨#[]⟩, .slice none 0 0, .string ⟨#[]⟩, .int .i64 0, .slice none 0 0] := hN1.blk
      skip
      refine z_store (by first | exact want_none | exact want_L rfl) rfl rfl rfl (by assumption) (by first | exact Nat.le_refl _ | simp [Value.cells]) (by simp [Value.cells, Value.oneCell']) (fun u2 hU2 => ?_)
      have hb2 : Blk u2 b1 48 [.int .i64 x.kind, .int .i64 x.space, .string x.name, .slice A2 x.attrs.length c2, .string x.text, .int .i64 x.fr, .slice A3 k.len c3] := hU2.blk
      have hC2 := hN1.chg.upd hU2 (hN1.ge (Chg.refl _ No))
      have hC02 := hC.no hC2
      by_cases k1 : x.kind = 1
      · have hkk : ¬ x.kind = 2 := by omega
        by_cases h1 : x.space < 1
        · refine zl_nil ?_
          refine zk_seq ?_
          refine zc_seq ?_
          refine zc_region ?_
          refine z_fa want_none (by decide) rfl ?_
          refine z_loadB want_none (by decide) rfl (by assumption) (by rfl) ?_
          refine zl_nil ?_
          refine zk_seq ?_
          refine zc_block ?_
          refine zc_seq ?_
          refine zc_region ?_
          refine z_cmpB (r := true) want_none (by decide) rfl rfl rfl (iff_of_true rfl (by omega)) ?_
          refine zl_pureL rfl ?_
          refine zl_nil ?_
          refine zk_seq ?_
          refine zc_true rfl ?_
          refine zc_seq ?_
          refine zc_region ?_
          refine z_fa want_none (by decide) rfl ?_
          refine z_loadB want_none (by decide) rfl (by assumption) (by rfl) ?_
          refine z_cmpB (r := true) want_none (by decide) rfl rfl rfl (iff_of_true rfl (by omega)) ?_
          refine zl_pureL rfl ?_
          iterate 3 (refine zl_skip rfl ?_)
          iterate 2 (refine zl_pureL rfl ?_)
          iterate 3 (refine zl_skip rfl ?_)
          iterate 2 (refine zl_pureL rfl ?_)
          iterate 3 (refine zl_skip rfl ?_)
          iterate 2 (refine zl_pureL rfl ?_)
          iterate 3 (refine zl_skip rfl ?_)
          iterate 2 (refine zl_pureL rfl ?_)
          iterate 3 (refine zl_skip rfl ?_)
          iterate 3 (refine zl_pureL rfl ?_)
          iterate 3 (refine zl_skip rfl ?_)
          iterate 2 (refine zl_pureL rfl ?_)
          refine zl_nil ?_
          refine zk_seq ?_
          refine zc_true rfl ?_
          refine zc_seq ?_
          refine zc_region ?_
          refine zl_pureL rfl ?_
          refine zl_nil ?_
          refine zk_seq ?_
          refine zc_ret ?_
          iterate 2 (refine zk_ret_block ?_)
          iterate 2 (refine zk_ret_then ?_)
          refine zk_ret_block ?_
          refine zk_ret_then ?_
          exact zk_ret1 (.inr rfl) rfl rfl ⟨false, rfl, no (bad (by unfold sound1; omega)), hC02⟩
        by_cases h2 : 3 < x.space
        · refine zl_nil ?_
          refine zk_seq ?_
          refine zc_seq ?_
          refine zc_region ?_
          refine z_fa want_none (by decide) rfl ?_
          refine z_loadB want_none (by decide) rfl (by assumption) (by rfl) ?_
          refine zl_nil ?_
          refine zk_seq ?_
          refine zc_block ?_
          refine zc_seq ?_
          refine zc_region ?_
          refine z_cmpB (r := true) want_none (by decide) rfl rfl rfl (iff_of_true rfl (by omega)) ?_
          refine zl_pureL rfl ?_
          refine zl_nil ?_
          refine zk_seq ?_
          refine zc_true rfl ?_
          refine zc_seq ?_
          refine zc_region ?_
          refine z_fa want_none (by decide) rfl ?_
          refine z_loadB want_none (by decide) rfl (by assumption) (by rfl) ?_
          refine z_cmpB (r := false) want_none (by decide) rfl rfl rfl (iff_of_false Bool.false_ne_true (by omega)) ?_
          refine zl_pureL rfl ?_
          refine z_fa (want_L rfl) (by decide) rfl ?_
          refine z_loadB (want_L rfl) (by decide) rfl (by assumption) (by rfl) ?_
          refine z_cmpB (r := true) (want_L rfl) (by decide) rfl rfl rfl (iff_of_true rfl (by omega)) ?_
          iterate 2 (refine zl_pureL rfl ?_)
          iterate 3 (refine zl_skip rfl ?_)
          iterate 2 (refine zl_pureL rfl ?_)
          iterate 3 (refine zl_skip rfl ?_)
          iterate 2 (refine zl_pureL rfl ?_)
          iterate 3 (refine zl_skip rfl ?_)
          iterate 2 (refine zl_pureL rfl ?_)
          iterate 3 (refine zl_skip rfl ?_)
          iterate 3 (refine zl_pureL rfl ?_)
          iterate 3 (refine zl_skip rfl ?_)
          iterate 2 (refine zl_pureL rfl ?_)
          refine zl_nil ?_
          refine zk_seq ?_
          refine zc_true rfl ?_
          refine zc_seq ?_
          refine zc_region ?_
          refine zl_pureL rfl ?_
          refine zl_nil ?_
          refine zk_seq ?_
          refine zc_ret ?_
          iterate 2 (refine zk_ret_block ?_)
          iterate 2 (refine zk_ret_then ?_)
          refine zk_ret_block ?_
          refine zk_ret_then ?_
          exact zk_ret1 (.inr rfl) rfl rfl ⟨false, rfl, no (bad (by unfold sound1; omega)), hC02⟩
        refine zl_nil ?_
        refine zk_seq ?_
        refine zc_seq ?_
        refine zc_region ?_
        refine z_fa want_none (by decide) rfl ?_
        refine z_loadB want_none (by decide) rfl (by assumption) (by rfl) ?_
        refine zl_nil ?_
        refine zk_seq ?_
        refine zc_block ?_
        refine zc_seq ?_
        refine zc_region ?_
        refine z_cmpB (r := true) want_none (by decide) rfl rfl rfl (iff_of_true rfl (by omega)) ?_
        refine zl_pureL rfl ?_
        refine zl_nil ?_
        refine zk_seq ?_
        refine zc_true rfl ?_
        refine zc_seq ?_
        refine zc_region ?_
        refine z_fa want_none (by decide) rfl ?_
        refine z_loadB want_none (by decide) rfl (by assumption) (by rfl) ?_
        refine z_cmpB (r := false) want_none (by decide) rfl rfl rfl (iff_of_false Bool.false_ne_true (by omega)) ?_
        refine zl_pureL rfl ?_
        refine z_fa (want_L rfl) (by decide) rfl ?_
        refine z_loadB (want_L rfl) (by decide) rfl (by assumption) (by rfl) ?_
        refine z_cmpB (r := false) (want_L rfl) (by decide) rfl rfl rfl (iff_of_false Bool.false_ne_true (by omega)) ?_
        iterate 2 (refine zl_pureL rfl ?_)
        refine z_fa (want_L rfl) (by decide) rfl ?_
        refine z_loadB (want_L rfl) (by decide) rfl (by assumption) (by rfl) ?_
        refine z_eqS (by first | exact want_none | exact want_L rfl) (by decide) rfl rfl (fun hc => ?_) (fun hc => ?_)
        · iterate 2 (refine zl_pureL rfl ?_)
          iterate 3 (refine zl_skip rfl ?_)
          iterate 2 (refine zl_pureL rfl ?_)
          iterate 3 (refine zl_skip rfl ?_)
          iterate 2 (refine zl_pureL rfl ?_)
          iterate 3 (refine zl_skip rfl ?_)
          iterate 3 (refine zl_pureL rfl ?_)
          iterate 3 (refine zl_skip rfl ?_)
          iterate 2 (refine zl_pureL rfl ?_)
          refine zl_nil ?_
          refine zk_seq ?_
          refine zc_true rfl ?_
          refine zc_seq ?_
          refine zc_region ?_
          refine zl_pureL rfl ?_
          refine zl_nil ?_
          refine zk_seq ?_
          refine zc_ret ?_
          iterate 2 (refine zk_ret_block ?_)
          iterate 2 (refine zk_ret_then ?_)
          refine zk_ret_block ?_
          refine zk_ret_then ?_
          exact zk_ret1 (.inr rfl) rfl rfl ⟨false, rfl, no (bad (by unfold sound1; rintro (h | h | h) <;> first | omega | exact absurd (by assumption) h.2.2.2.1)), hC02⟩
        iterate 2 (refine zl_pureL rfl ?_)
        refine z_fa (want_L rfl) (by decide) rfl ?_
        refine z_loadB (want_L rfl) (by decide) rfl (by assumption) (by rfl) ?_
        refine z_neS (by first | exact want_none | exact want_L rfl) (by decide) rfl rfl (fun hc => ?_) (fun hc => ?_)
        · iterate 2 (refine zl_pureL rfl ?_)
          iterate 3 (refine zl_skip rfl ?_)
          iterate 2 (refine zl_pureL rfl ?_)
          iterate 3 (refine zl_skip rfl ?_)
          iterate 3 (refine zl_pureL rfl ?_)
          iterate 3 (refine zl_skip rfl ?_)
          iterate 2 (refine zl_pureL rfl ?_)
          refine zl_nil ?_
          refine zk_seq ?_
          refine zc_true rfl ?_
          refine zc_seq ?_
          refine zc_region ?_
          refine zl_pureL rfl ?_
          refine zl_nil ?_
          refine zk_seq ?_
          refine zc_ret ?_
          iterate 2 (refine zk_ret_block ?_)
          iterate 2 (refine zk_ret_then ?_)
          refine zk_ret_block ?_
          refine zk_ret_then ?_
          exact zk_ret1 (.inr rfl) rfl rfl ⟨false, rfl, no (bad (by unfold sound1; rintro (h | h | h) <;> first | omega | exact absurd h.2.2.2.2.1 (by assumption))), hC02⟩
        by_cases h5 : x.fr = 0
        · iterate 2 (refine zl_pureL rfl ?_)
          refine z_fa (want_L rfl) (by decide) rfl ?_
          refine z_loadB (want_L rfl) (by decide) rfl (by assumption) (by rfl) ?_
          refine z_cmpB (r := false) (want_L rfl) (by decide) rfl rfl rfl (iff_of_false Bool.false_ne_true (by omega)) ?_
          iterate 2 (refine zl_pureL rfl ?_)
          refine z_fa (want_L rfl) (by decide) rfl ?_
          refine z_loadB (want_L rfl) (by decide) rfl (by assumption) (by rfl) ?_
          refine zl_call (by first | exact want_none | exact want_L rfl) rfl (by decide) rfl (once_calls (hA.no hC2) hxa) ?_
          rintro _ u3 ⟨q1, rfl, hq1, hC3⟩
          refine ⟨_, rfl, ?_⟩
          have hb3 := hb2.no hC3
          cases q1
          · iterate 3 (refine zl_pureL rfl ?_)
            iterate 3 (refine zl_skip rfl ?_)
            iterate 2 (refine zl_pureL rfl ?_)
            refine zl_nil ?_
            refine zk_seq ?_
            refine zc_true rfl ?_
            refine zc_seq ?_
            refine zc_region ?_
            refine zl_pureL rfl ?_
            refine zl_nil ?_
            refine zk_seq ?_
            refine zc_ret ?_
            iterate 2 (refine zk_ret_block ?_)
            iterate 2 (refine zk_ret_then ?_)
            refine zk_ret_block ?_
            refine zk_ret_then ?_
            exact zk_ret1 (.inr rfl) rfl rfl ⟨false, rfl, no (bad (by unfold sound1; rintro (h | h | h) <;> first | omega | exact absurd (hq1.2 h.2.2.2.2.2.2) Bool.false_ne_true)), hC02.no hC3⟩
          have s1 : sound1 x k := .inl ⟨k1, by omega, by omega, by assumption, by assumption, h5, hq1.1 rfl⟩
          iterate 3 (refine zl_pureL rfl ?_)
          refine z_fa (want_L rfl) (by decide) rfl ?_
          refine z_loadB (want_L rfl) (by decide) rfl (by assumption) (by rfl) ?_
          refine zl_call (by first | exact want_none | exact want_L rfl) rfl (by decide) rfl (ih (hK.no (hC2.no hC3)) hfk (by omega) (by omega)) ?_
          rintro _ u4 ⟨q2, rfl, hq2, hC4⟩
          refine ⟨_, rfl, ?_⟩
          cases q2
          · iterate 2 (refine zl_pureL rfl ?_)
            refine zl_nil ?_
            refine zk_seq ?_
            refine zc_true rfl ?_
            refine zc_seq ?_
            refine zc_region ?_
            refine zl_pureL rfl ?_
            refine zl_nil ?_
            refine zk_seq ?_
            refine zc_ret ?_
            iterate 2 (refine zk_ret_block ?_)
            iterate 2 (refine zk_ret_then ?_)
            refine zk_ret_block ?_
            refine zk_ret_then ?_
            exact zk_ret1 (.inr rfl) rfl rfl ⟨false, rfl, no (fun hh => absurd (hq2.2 (hd.2 hh).2.1) Bool.false_ne_true), (hC02.no hC3).no hC4⟩
          iterate 2 (refine zl_pureL rfl ?_)
          refine zl_nil ?_
          refine zk_seq ?_
          refine zc_false rfl ?_
          refine zc_skip ?_
          iterate 2 (refine zk_norm_block ?_)
          refine zk_seq ?_
          refine zc_region ?_
          refine zl_pureL rfl ?_
          refine z_add want_none (by decide) rfl rfl (by omega) (by omega) ?_
          refine zl_pureL rfl ?_
          refine zl_nil ?_
          exact zk_loopW (i + 1) ⟨by omega, hnext s1 (hq2.1 rfl) (fun hh => hkk hh.2), (hC02.no hC3).no hC4⟩ (by omega) ⟨rfl, get_int rfl (by simp), trivial⟩
        · iterate 2 (refine zl_pureL rfl ?_)
          refine z_fa (want_L rfl) (by decide) rfl ?_
          refine z_loadB (want_L rfl) (by decide) rfl (by assumption) (by rfl) ?_
          refine z_cmpB (r := true) (want_L rfl) (by decide) rfl rfl rfl (iff_of_true rfl (by omega)) ?_
          iterate 2 (refine zl_pureL rfl ?_)
          iterate 3 (refine zl_skip rfl ?_)
          iterate 3 (refine zl_pureL rfl ?_)
          iterate 3 (refine zl_skip rfl ?_)
          iterate 2 (refine zl_pureL rfl ?_)
          refine zl_nil ?_
          refine zk_seq ?_
          refine zc_true rfl ?_
          refine zc_seq ?_
          refine zc_region ?_
          refine zl_pureL rfl ?_
          refine zl_nil ?_
          refine zk_seq ?_
          refine zc_ret ?_
          iterate 2 (refine zk_ret_block ?_)
          iterate 2 (refine zk_ret_then ?_)
          refine zk_ret_block ?_
          refine zk_ret_then ?_
          exact zk_ret1 (.inr rfl) rfl rfl ⟨false, rfl, no (bad (by unfold sound1; omega)), hC02⟩
      by_cases k2 : x.kind = 2
      · refine zl_nil ?_
        refine zk_seq ?_
        refine zc_seq ?_
        refine zc_region ?_
        refine z_fa want_none (by decide) rfl ?_
        refine z_loadB want_none (by decide) rfl (by assumption) (by rfl) ?_
        refine zl_nil ?_
        refine zk_seq ?_
        refine zc_block ?_
        refine zc_seq ?_
        refine zc_region ?_
        refine z_cmpB (r := false) want_none (by decide) rfl rfl rfl (iff_of_false Bool.false_ne_true (by omega)) ?_
        refine zl_pureL rfl ?_
        refine zl_nil ?_
        refine zk_seq ?_
        refine zc_false rfl ?_
        refine zc_seq ?_
        refine zc_region ?_
        refine z_cmpB (r := true) want_none (by decide) rfl rfl rfl (iff_of_true rfl (by omega)) ?_
        refine zl_pureL rfl ?_
        refine zl_nil ?_
        refine zk_seq ?_
        refine zc_true rfl ?_
        refine zc_seq ?_
        refine zc_region ?_
        refine z_fa want_none (by decide) rfl ?_
        refine z_loadB want_none (by decide) rfl (by assumption) (by rfl) ?_
        refine z_eqS (by first | exact want_none | exact want_L rfl) (by decide) rfl rfl (fun hc => ?_) (fun hc => ?_)
        · refine zl_pureL rfl ?_
          iterate 3 (refine zl_skip rfl ?_)
          iterate 2 (refine zl_pureL rfl ?_)
          iterate 3 (refine zl_skip rfl ?_)
          iterate 2 (refine zl_pureL rfl ?_)
          iterate 8 (refine zl_skip rfl ?_)
          iterate 2 (refine zl_pureL rfl ?_)
          iterate 3 (refine zl_skip rfl ?_)
          iterate 3 (refine zl_pureL rfl ?_)
          refine zl_skip rfl ?_
          iterate 3 (refine zl_pureL rfl ?_)
          iterate 5 (refine zl_skip rfl ?_)
          iterate 2 (refine zl_pureL rfl ?_)
          refine zl_nil ?_
          refine zk_seq ?_
          refine zc_true rfl ?_
          refine zc_seq ?_
          refine zc_region ?_
          refine zl_pureL rfl ?_
          refine zl_nil ?_
          refine zk_seq ?_
          refine zc_ret ?_
          iterate 2 (refine zk_ret_block ?_)
          iterate 2 (refine zk_ret_then ?_)
          refine zk_ret_block ?_
          refine zk_ret_then ?_
          exact zk_ret1 (.inr rfl) rfl rfl ⟨false, rfl, no (bad (by unfold sound1; rintro (h | h | h) <;> first | omega | exact absurd (by assumption) h.2.2.2.2.2.1)), hC02⟩
        by_cases h1 : x.space = 0
        · refine zl_pureL rfl ?_
          refine z_fa (want_L rfl) (by decide) rfl ?_
          refine z_loadB (want_L rfl) (by decide) rfl (by assumption) (by rfl) ?_
          refine z_cmpB (r := false) (want_L rfl) (by decide) rfl rfl rfl (iff_of_false Bool.false_ne_true (by omega)) ?_
          iterate 2 (refine zl_pureL rfl ?_)
          refine z_fa (want_L rfl) (by decide) rfl ?_
          refine z_loadB (want_L rfl) (by decide) rfl (by assumption) (by rfl) ?_
          refine z_neS (by first | exact want_none | exact want_L rfl) (by decide) rfl rfl (fun hc => ?_) (fun hc => ?_)
          · iterate 2 (refine zl_pureL rfl ?_)
            iterate 8 (refine zl_skip rfl ?_)
            iterate 2 (refine zl_pureL rfl ?_)
            iterate 3 (refine zl_skip rfl ?_)
            iterate 3 (refine zl_pureL rfl ?_)
            refine zl_skip rfl ?_
            iterate 3 (refine zl_pureL rfl ?_)
            iterate 5 (refine zl_skip rfl ?_)
            iterate 2 (refine zl_pureL rfl ?_)
            refine zl_nil ?_
            refine zk_seq ?_
            refine zc_true rfl ?_
            refine zc_seq ?_
            refine zc_region ?_
            refine zl_pureL rfl ?_
            refine zl_nil ?_
            refine zk_seq ?_
            refine zc_ret ?_
            iterate 2 (refine zk_ret_block ?_)
            iterate 2 (refine zk_ret_then ?_)
            refine zk_ret_block ?_
            refine zk_ret_then ?_
            exact zk_ret1 (.inr rfl) rfl rfl ⟨false, rfl, no (bad (by unfold sound1; rintro (h | h | h) <;> first | omega | exact absurd h.2.2.1 (by assumption))), hC02⟩
          by_cases h3 : x.attrs.length = 0 ∧ k.len = 0
          · by_cases h4 : x.fr < 0
            · iterate 2 (refine zl_pureL rfl ?_)
              refine z_fa (want_L rfl) (by decide) rfl ?_
              refine z_loadB (want_L rfl) (by decide) rfl (by assumption) (by rfl) ?_
              refine z_len (want_L rfl) (by decide) rfl ?_
              refine z_fa (want_L rfl) (by decide) rfl ?_
              refine z_loadB (want_L rfl) (by decide) rfl (by assumption) (by rfl) ?_
              refine z_len (want_L rfl) (by decide) rfl ?_
              refine z_add (want_L rfl) (by decide) rfl rfl (by omega) (by omega) ?_
              refine z_cmpB (r := false) (want_L rfl) (by decide) rfl rfl rfl (iff_of_false Bool.false_ne_true (by omega)) ?_
              iterate 2 (refine zl_pureL rfl ?_)
              refine z_fa (want_L rfl) (by decide) rfl ?_
              refine z_loadB (want_L rfl) (by decide) rfl (by assumption) (by rfl) ?_
              refine z_cmpB (r := true) (want_L rfl) (by decide) rfl rfl rfl (iff_of_true rfl (by omega)) ?_
              iterate 3 (refine zl_pureL rfl ?_)
              refine zl_skip rfl ?_
              iterate 3 (refine zl_pureL rfl ?_)
              iterate 5 (refine zl_skip rfl ?_)
              iterate 2 (refine zl_pureL rfl ?_)
              refine zl_nil ?_
              refine zk_seq ?_
              refine zc_true rfl ?_
              refine zc_seq ?_
              refine zc_region ?_
              refine zl_pureL rfl ?_
              refine zl_nil ?_
              refine zk_seq ?_
              refine zc_ret ?_
              iterate 2 (refine zk_ret_block ?_)
              iterate 2 (refine zk_ret_then ?_)
              refine zk_ret_block ?_
              refine zk_ret_then ?_
              exact zk_ret1 (.inr rfl) rfl rfl ⟨false, rfl, no (bad (by unfold sound1; omega)), hC02⟩
            have s1 : sound1 x k := .inr (.inl ⟨k2, h1, by assumption, h3.1, h3.2, by assumption, by omega⟩)
            by_cases h0 : i = 0
            · subst h0
              iterate 2 (refine zl_pureL rfl ?_)
              refine z_fa (want_L rfl) (by decide) rfl ?_
              refine z_loadB (want_L rfl) (by decide) rfl (by assumption) (by rfl) ?_
              refine z_len (want_L rfl) (by decide) rfl ?_
              refine z_fa (want_L rfl) (by decide) rfl ?_
              refine z_loadB (want_L rfl) (by decide) rfl (by assumption) (by rfl) ?_
              refine z_len (want_L rfl) (by decide) rfl ?_
              refine z_add (want_L rfl) (by decide) rfl rfl (by omega) (by omega) ?_
              refine z_cmpB (r := false) (want_L rfl) (by decide) rfl rfl rfl (iff_of_false Bool.false_ne_true (by omega)) ?_
              iterate 2 (refine zl_pureL rfl ?_)
              refine z_fa (want_L rfl) (by decide) rfl ?_
              refine z_loadB (want_L rfl) (by decide) rfl (by assumption) (by rfl) ?_
              refine z_cmpB (r := false) (want_L rfl) (by decide) rfl rfl rfl (iff_of_false Bool.false_ne_true (by omega)) ?_
              iterate 3 (refine zl_pureL rfl ?_)
              refine z_cmpB (r := false) (want_L rfl) (by decide) rfl rfl rfl (iff_of_false Bool.false_ne_true (by omega)) ?_
              iterate 3 (refine zl_pureL rfl ?_)
              iterate 5 (refine zl_skip rfl ?_)
              iterate 2 (refine zl_pureL rfl ?_)
              refine zl_nil ?_
              refine zk_seq ?_
              refine zc_false rfl ?_
              refine zc_skip ?_
              iterate 2 (refine zk_norm_block ?_)
              refine zk_seq ?_
              refine zc_region ?_
              refine zl_pureL rfl ?_
              refine z_add want_none (by decide) rfl rfl (by omega) (by omega) ?_
              refine zl_pureL rfl ?_
              refine zl_nil ?_
              exact zk_loopW 1 ⟨by omega, hnext s1 (SoundF.k0 h3.2) (fun hh => absurd hh.1 Bool.false_ne_true), hC02⟩ (by omega) ⟨rfl, rfl, trivial⟩
            · obtain ⟨j, rfl⟩ : ∃ j, i = j + 1 := ⟨i - 1, by omega⟩
              obtain ⟨b', o', c'', x', k', r', A', K', e1', hv', hN', hA', hK'⟩ := (h.no hC02).at_ j (by omega)
              cases hv'
              have hpb := prevB_succ e1'
              iterate 2 (refine zl_pureL rfl ?_)
              refine z_fa (want_L rfl) (by decide) rfl ?_
              refine z_loadB (want_L rfl) (by decide) rfl (by assumption) (by rfl) ?_
              refine z_len (want_L rfl) (by decide) rfl ?_
              refine z_fa (want_L rfl) (by decide) rfl ?_
              refine z_loadB (want_L rfl) (by decide) rfl (by assumption) (by rfl) ?_
              refine z_len (want_L rfl) (by decide) rfl ?_
              refine z_add (want_L rfl) (by decide) rfl rfl (by omega) (by omega) ?_
              refine z_cmpB (r := false) (want_L rfl) (by decide) rfl rfl rfl (iff_of_false Bool.false_ne_true (by omega)) ?_
              iterate 2 (refine zl_pureL rfl ?_)
              refine z_fa (want_L rfl) (by decide) rfl ?_
              refine z_loadB (want_L rfl) (by decide) rfl (by assumption) (by rfl) ?_
              refine z_cmpB (r := false) (want_L rfl) (by decide) rfl rfl rfl (iff_of_false Bool.false_ne_true (by omega)) ?_
              iterate 3 (refine zl_pureL rfl ?_)
              refine z_cmpB (r := true) (want_L rfl) (by decide) rfl rfl rfl (iff_of_true rfl (by omega)) ?_
              iterate 3 (refine zl_pureL rfl ?_)
              refine z_sub (want_L rfl) (by decide) rfl rfl (by omega) (by omega) ?_
              refine z_ia (want_L rfl) (by decide) rfl rfl (by omega) (by omega) ?_
              refine z_fa (want_L rfl) (by decide) rfl ?_
              refine z_load1 (by first | exact want_none | exact want_L rfl) (by decide) rfl (cell_at hN'.c0 (by omega)) ?_
              by_cases hk2' : x'.kind = 2
              · refine z_cmpB (r := true) (want_L rfl) (by decide) rfl rfl rfl (iff_of_true rfl (by omega)) ?_
                iterate 2 (refine zl_pureL rfl ?_)
                refine zl_nil ?_
                refine zk_seq ?_
                refine zc_true rfl ?_
                refine zc_seq ?_
                refine zc_region ?_
                refine zl_pureL rfl ?_
                refine zl_nil ?_
                refine zk_seq ?_
                refine zc_ret ?_
                iterate 2 (refine zk_ret_block ?_)
                iterate 2 (refine zk_ret_then ?_)
                refine zk_ret_block ?_
                refine zk_ret_then ?_
                exact zk_ret1 (.inr rfl) rfl rfl ⟨false, rfl, no (fun hh => (hd.2 hh).2.2.1 ⟨by rw [hpb, decide_eq_true hk2'], k2⟩), hC02⟩
              · refine z_cmpB (r := false) (want_L rfl) (by decide) rfl rfl rfl (iff_of_false Bool.false_ne_true (by omega)) ?_
                iterate 2 (refine zl_pureL rfl ?_)
                refine zl_nil ?_
                refine zk_seq ?_
                refine zc_false rfl ?_
                refine zc_skip ?_
                iterate 2 (refine zk_norm_block ?_)
                refine zk_seq ?_
                refine zc_region ?_
                refine zl_pureL rfl ?_
                refine z_add want_none (by decide) rfl rfl (by omega) (by omega) ?_
                refine zl_pureL rfl ?_
                refine zl_nil ?_
                exact zk_loopW (j + 1 + 1) ⟨by omega, hnext s1 (SoundF.k0 h3.2) (fun hh => by rw [hpb, decide_eq_false hk2'] at hh; exact absurd hh.1 Bool.false_ne_true), hC02⟩ (by omega) ⟨rfl, get_int rfl (by simp), trivial⟩
          · iterate 2 (refine zl_pureL rfl ?_)
            refine z_fa (want_L rfl) (by decide) rfl ?_
            refine z_loadB (want_L rfl) (by decide) rfl (by assumption) (by rfl) ?_
            refine z_len (want_L rfl) (by decide) rfl ?_
            refine z_fa (want_L rfl) (by decide) rfl ?_
            refine z_loadB (want_L rfl) (by decide) rfl (by assumption) (by rfl) ?_
            refine z_len (want_L rfl) (by decide) rfl ?_
            refine z_add (want_L rfl) (by decide) rfl rfl (by omega) (by omega) ?_
            refine z_cmpB (r := true) (want_L rfl) (by decide) rfl rfl rfl (iff_of_true rfl (by omega)) ?_
            iterate 2 (refine zl_pureL rfl ?_)
            iterate 3 (refine zl_skip rfl ?_)
            iterate 3 (refine zl_pureL rfl ?_)
            refine zl_skip rfl ?_
            iterate 3 (refine zl_pureL rfl ?_)
            iterate 5 (refine zl_skip rfl ?_)
            iterate 2 (refine zl_pureL rfl ?_)
            refine zl_nil ?_
            refine zk_seq ?_
            refine zc_true rfl ?_
            refine zc_seq ?_
            refine zc_region ?_
            refine zl_pureL rfl ?_
            refine zl_nil ?_
            refine zk_seq ?_
            refine zc_ret ?_
            iterate 2 (refine zk_ret_block ?_)
            iterate 2 (refine zk_ret_then ?_)
            refine zk_ret_block ?_
            refine zk_ret_then ?_
            exact zk_ret1 (.inr rfl) rfl rfl ⟨false, rfl, no (bad (by unfold sound1; omega)), hC02⟩
        · refine zl_pureL rfl ?_
          refine z_fa (want_L rfl) (by decide) rfl ?_
          refine z_loadB (want_L rfl) (by decide) rfl (by assumption) (by rfl) ?_
          refine z_cmpB (r := true) (want_L rfl) (by decide) rfl rfl rfl (iff_of_true rfl (by omega)) ?_
          iterate 2 (refine zl_pureL rfl ?_)
          iterate 3 (refine zl_skip rfl ?_)
          iterate 2 (refine zl_pureL rfl ?_)
          iterate 8 (refine zl_skip rfl ?_)
          iterate 2 (refine zl_pureL rfl ?_)
          iterate 3 (refine zl_skip rfl ?_)
          iterate 3 (refine zl_pureL rfl ?_)
          refine zl_skip rfl ?_
          iterate 3 (refine zl_pureL rfl ?_)
          iterate 5 (refine zl_skip rfl ?_)
          iterate 2 (refine zl_pureL rfl ?_)
          refine zl_nil ?_
          refine zk_seq ?_
          refine zc_true rfl ?_
          refine zc_seq ?_
          refine zc_region ?_
          refine zl_pureL rfl ?_
          refine zl_nil ?_
          refine zk_seq ?_
          refine zc_ret ?_
          iterate 2 (refine zk_ret_block ?_)
          iterate 2 (refine zk_ret_then ?_)
          refine zk_ret_block ?_
          refine zk_ret_then ?_
          exact zk_ret1 (.inr rfl) rfl rfl ⟨false, rfl, no (bad (by unfold sound1; omega)), hC02⟩
      by_cases k3 : x.kind = 3
      · by_cases h1 : x.space = 0
        · refine zl_nil ?_
          refine zk_seq ?_
          refine zc_seq ?_
          refine zc_region ?_
          refine z_fa want_none (by decide) rfl ?_
          refine z_loadB want_none (by decide) rfl (by assumption) (by rfl) ?_
          refine zl_nil ?_
          refine zk_seq ?_
          refine zc_block ?_
          refine zc_seq ?_
          refine zc_region ?_
          refine z_cmpB (r := false) want_none (by decide) rfl rfl rfl (iff_of_false Bool.false_ne_true (by omega)) ?_
          refine zl_pureL rfl ?_
          refine zl_nil ?_
          refine zk_seq ?_
          refine zc_false rfl ?_
          refine zc_seq ?_
          refine zc_region ?_
          refine z_cmpB (r := false) want_none (by decide) rfl rfl rfl (iff_of_false Bool.false_ne_true (by omega)) ?_
          refine zl_pureL rfl ?_
          refine zl_nil ?_
          refine zk_seq ?_
          refine zc_false rfl ?_
          refine zc_seq ?_
          refine zc_region ?_
          refine z_cmpB (r := true) want_none (by decide) rfl rfl rfl (iff_of_true rfl (by omega)) ?_
          refine zl_pureL rfl ?_
          refine zl_nil ?_
          refine zk_seq ?_
          refine zc_true rfl ?_
          refine zc_seq ?_
          refine zc_region ?_
          refine z_fa want_none (by decide) rfl ?_
          refine z_loadB want_none (by decide) rfl (by assumption) (by rfl) ?_
          refine z_cmpB (r := false) want_none (by decide) rfl rfl rfl (iff_of_false Bool.false_ne_true (by omega)) ?_
          refine zl_pureL rfl ?_
          refine z_fa (want_L rfl) (by decide) rfl ?_
          refine z_loadB (want_L rfl) (by decide) rfl (by assumption) (by rfl) ?_
          refine z_neS (by first | exact want_none | exact want_L rfl) (by decide) rfl rfl (fun hc => ?_) (fun hc => ?_)
          · iterate 2 (refine zl_pureL rfl ?_)
            iterate 8 (refine zl_skip rfl ?_)
            iterate 2 (refine zl_pureL rfl ?_)
            iterate 3 (refine zl_skip rfl ?_)
            refine zl_pureL rfl ?_
            refine zl_nil ?_
            refine zk_seq ?_
            refine zc_true rfl ?_
            refine zc_seq ?_
            refine zc_region ?_
            refine zl_pureL rfl ?_
            refine zl_nil ?_
            refine zk_seq ?_
            refine zc_ret ?_
            iterate 2 (refine zk_ret_block ?_)
            iterate 2 (refine zk_ret_then ?_)
            refine zk_ret_block ?_
            refine zk_ret_then ?_
            exact zk_ret1 (.inr rfl) rfl rfl ⟨false, rfl, no (bad (by unfold sound1; rintro (h | h | h) <;> first | omega | exact absurd h.2.2.1 (by assumption))), hC02⟩
          by_cases h3 : x.attrs.length = 0 ∧ k.len = 0
          · by_cases h4 : x.fr = 0
            · have s1 : sound1 x k := .inr (.inr ⟨k3, h1, by assumption, h3.1, h3.2, h4⟩)
              iterate 2 (refine zl_pureL rfl ?_)
              refine z_fa (want_L rfl) (by decide) rfl ?_
              refine z_loadB (want_L rfl) (by decide) rfl (by assumption) (by rfl) ?_
              refine z_len (want_L rfl) (by decide) rfl ?_
              refine z_fa (want_L rfl) (by decide) rfl ?_
              refine z_loadB (want_L rfl) (by decide) rfl (by assumption) (by rfl) ?_
              refine z_len (want_L rfl) (by decide) rfl ?_
              refine z_add (want_L rfl) (by decide) rfl rfl (by omega) (by omega) ?_
              refine z_cmpB (r := false) (want_L rfl) (by decide) rfl rfl rfl (iff_of_false Bool.false_ne_true (by omega)) ?_
              iterate 2 (refine zl_pureL rfl ?_)
              refine z_fa (want_L rfl) (by decide) rfl ?_
              refine z_loadB (want_L rfl) (by decide) rfl (by assumption) (by rfl) ?_
              refine z_cmpB (r := false) (want_L rfl) (by decide) rfl rfl rfl (iff_of_false Bool.false_ne_true (by omega)) ?_
              refine zl_pureL rfl ?_
              refine zl_nil ?_
              refine zk_seq ?_
              refine zc_false rfl ?_
              refine zc_skip ?_
              iterate 2 (refine zk_norm_block ?_)
              refine zk_seq ?_
              refine zc_region ?_
              refine zl_pureL rfl ?_
              refine z_add want_none (by decide) rfl rfl (by omega) (by omega) ?_
              refine zl_pureL rfl ?_
              refine zl_nil ?_
              exact zk_loopW (i + 1) ⟨by omega, hnext s1 (SoundF.k0 h3.2) (fun hh => k2 hh.2), hC02⟩ (by omega) ⟨rfl, get_int rfl (by simp), trivial⟩
            · iterate 2 (refine zl_pureL rfl ?_)
              refine z_fa (want_L rfl) (by decide) rfl ?_
              refine z_loadB (want_L rfl) (by decide) rfl (by assumption) (by rfl) ?_
              refine z_len (want_L rfl) (by decide) rfl ?_
              refine z_fa (want_L rfl) (by decide) rfl ?_
              refine z_loadB (want_L rfl) (by decide) rfl (by assumption) (by rfl) ?_
              refine z_len (want_L rfl) (by decide) rfl ?_
              refine z_add (want_L rfl) (by decide) rfl rfl (by omega) (by omega) ?_
              refine z_cmpB (r := false) (want_L rfl) (by decide) rfl rfl rfl (iff_of_false Bool.false_ne_true (by omega)) ?_
              iterate 2 (refine zl_pureL rfl ?_)
              refine z_fa (want_L rfl) (by decide) rfl ?_
              refine z_loadB (want_L rfl) (by decide) rfl (by assumption) (by rfl) ?_
              refine z_cmpB (r := true) (want_L rfl) (by decide) rfl rfl rfl (iff_of_true rfl (by omega)) ?_
              refine zl_pureL rfl ?_
              refine zl_nil ?_
              refine zk_seq ?_
              refine zc_true rfl ?_
              refine zc_seq ?_
              refine zc_region ?_
              refine zl_pureL rfl ?_
              refine zl_nil ?_
              refine zk_seq ?_
              refine zc_ret ?_
              iterate 2 (refine zk_ret_block ?_)
              iterate 2 (refine zk_ret_then ?_)
              refine zk_ret_block ?_
              refine zk_ret_then ?_
              exact zk_ret1 (.inr rfl) rfl rfl ⟨false, rfl, no (bad (by unfold sound1; omega)), hC02⟩
          · iterate 2 (refine zl_pureL rfl ?_)
            refine z_fa (want_L rfl) (by decide) rfl ?_
            refine z_loadB (want_L rfl) (by decide) rfl (by assumption) (by rfl) ?_
            refine z_len (want_L rfl) (by decide) rfl ?_
            refine z_fa (want_L rfl) (by decide) rfl ?_
            refine z_loadB (want_L rfl) (by decide) rfl (by assumption) (by rfl) ?_
            refine z_len (want_L rfl) (by decide) rfl ?_
            refine z_add (want_L rfl) (by decide) rfl rfl (by omega) (by omega) ?_
            refine z_cmpB (r := true) (want_L rfl) (by decide) rfl rfl rfl (iff_of_true rfl (by omega)) ?_
            iterate 2 (refine zl_pureL rfl ?_)
            iterate 3 (refine zl_skip rfl ?_)
            refine zl_pureL rfl ?_
            refine zl_nil ?_
            refine zk_seq ?_
            refine zc_true rfl ?_
            refine zc_seq ?_
            refine zc_region ?_
            refine zl_pureL rfl ?_
            refine zl_nil ?_
            refine zk_seq ?_
            refine zc_ret ?_
            iterate 2 (refine zk_ret_block ?_)
            iterate 2 (refine zk_ret_then ?_)
            refine zk_ret_block ?_
            refine zk_ret_then ?_
            exact zk_ret1 (.inr rfl) rfl rfl ⟨false, rfl, no (bad (by unfold sound1; omega)), hC02⟩
        · refine zl_nil ?_
          refine zk_seq ?_
          refine zc_seq ?_
          refine zc_region ?_
          refine z_fa want_none (by decide) rfl ?_
          refine z_loadB want_none (by decide) rfl (by assumption) (by rfl) ?_
          refine zl_nil ?_
          refine zk_seq ?_
          refine zc_block ?_
          refine zc_seq ?_
          refine zc_region ?_
          refine z_cmpB (r := false) want_none (by decide) rfl rfl rfl (iff_of_false Bool.false_ne_true (by omega)) ?_
          refine zl_pureL rfl ?_
          refine zl_nil ?_
          refine zk_seq ?_
          refine zc_false rfl ?_
          refine zc_seq ?_
          refine zc_region ?_
          refine z_cmpB (r := false) want_none (by decide) rfl rfl rfl (iff_of_false Bool.false_ne_true (by omega)) ?_
          refine zl_pureL rfl ?_
          refine zl_nil ?_
          refine zk_seq ?_
          refine zc_false rfl ?_
          refine zc_seq ?_
          refine zc_region ?_
          refine z_cmpB (r := true) want_none (by decide) rfl rfl rfl (iff_of_true rfl (by omega)) ?_
          refine zl_pureL rfl ?_
          refine zl_nil ?_
          refine zk_seq ?_
          refine zc_true rfl ?_
          refine zc_seq ?_
          refine zc_region ?_
          refine z_fa want_none (by decide) rfl ?_
          refine z_loadB want_none (by decide) rfl (by assumption) (by rfl) ?_
          refine z_cmpB (r := true) want_none (by decide) rfl rfl rfl (iff_of_true rfl (by omega)) ?_
          refine zl_pureL rfl ?_
          iterate 3 (refine zl_skip rfl ?_)
          iterate 2 (refine zl_pureL rfl ?_)
          iterate 8 (refine zl_skip rfl ?_)
          iterate 2 (refine zl_pureL rfl ?_)
          iterate 3 (refine zl_skip rfl ?_)
          refine zl_pureL rfl ?_
          refine zl_nil ?_
          refine zk_seq ?_
          refine zc_true rfl ?_
          refine zc_seq ?_
          refine zc_region ?_
          refine zl_pureL rfl ?_
          refine zl_nil ?_
          refine zk_seq ?_
          refine zc_ret ?_
          iterate 2 (refine zk_ret_block ?_)
          iterate 2 (refine zk_ret_then ?_)
          refine zk_ret_block ?_
          refine zk_ret_then ?_
          exact zk_ret1 (.inr rfl) rfl rfl ⟨false, rfl, no (bad (by unfold sound1; omega)), hC02⟩
      · refine zl_nil ?_
        refine zk_seq ?_
        refine zc_seq ?_
        refine zc_region ?_
        refine z_fa want_none (by decide) rfl ?_
        refine z_loadB want_none (by decide) rfl (by assumption) (by rfl) ?_
        refine zl_nil ?_
        refine zk_seq ?_
        refine zc_block ?_
        refine zc_seq ?_
        refine zc_region ?_
        refine z_cmpB (r := false) want_none (by decide) rfl rfl rfl (iff_of_false Bool.false_ne_true (by omega)) ?_
        refine zl_pureL rfl ?_
        refine zl_nil ?_
        refine zk_seq ?_
        refine zc_false rfl ?_
        refine zc_seq ?_
        refine zc_region ?_
        refine z_cmpB (r := false) want_none (by decide) rfl rfl rfl (iff_of_false Bool.false_ne_true (by omega)) ?_
        refine zl_pureL rfl ?_
        refine zl_nil ?_
        refine zk_seq ?_
        refine zc_false rfl ?_
        refine zc_seq ?_
        refine zc_region ?_
        refine z_cmpB (r := false) want_none (by decide) rfl rfl rfl (iff_of_false Bool.false_ne_true (by omega)) ?_
        refine zl_pureL rfl ?_
        refine zl_nil ?_
        refine zk_seq ?_
        refine zc_false rfl ?_
        refine zc_seq ?_
        refine zc_region ?_
        refine zl_pureL rfl ?_
        refine zl_nil ?_
        refine zk_seq ?_
        refine zc_ret ?_
        iterate 2 (refine zk_ret_block ?_)
        iterate 2 (refine zk_ret_then ?_)
        refine zk_ret_block ?_
        refine zk_ret_then ?_
        exact zk_ret1 (.inr rfl) rfl rfl ⟨false, rfl, no (bad (by unfold sound1; omega)), hC02⟩
    · obtain rfl : i = t.len := by omega
      rw [t.drop_len] at hd
      iterate 2 (refine zc_seq ?_)
      refine zc_region ?_
      iterate 2 (refine zl_pureL rfl ?_)
      refine z_len want_none (by decide) rfl ?_
      refine z_cmpB (r := false) want_none (by decide) rfl rfl rfl (iff_of_false Bool.false_ne_true (by omega)) ?_
      refine zl_nil ?_
      refine zk_seq ?_
      refine zc_false rfl ?_
      refine zc_exit ?_
      iterate 2 (refine zk_exit_then ?_)
      refine zk_exit_block ?_
      refine zk_seq ?_
      refine zc_seq ?_
      refine zc_region ?_
      refine zl_pureL rfl ?_
      refine zl_nil ?_
      refine zk_seq ?_
      refine zc_ret ?_
      exact zk_ret1 (.inr rfl) rfl rfl ⟨true, rfl, iff_of_true rfl (hd.1 trivial), hC⟩
end Go.Proofs.Ytjiehalanklapaa.D
