import Derived.Test.YtjiehalanklapaaVIn
/- DomSounds, DomNumbers: the walks. -/
namespace Go.Proofs.Ytjiehalanklapaa.V
open Go Go.Z Go.Proofs Go.Proofs.Ytjiehalanklapaa.D
set_option linter.unusedVariables false
def Given (w : World) (v : Value) : Prop := ∃ t, TreeAt w v t ∧ RightT t ∧ t.len ≤ 9223372036854775807
theorem iff_eq {a b : Bool} {p : Prop} (h1 : a = true ↔ p) (h2 : b = true ↔ p) : b = a := Bool.eq_iff_iff.2 (h2.trans h1.symm)
set_option maxHeartbeats 8000000 in
theorem DomSounds_walk (a0 : Option Addr) (l0 c0 : Nat) (a1 : Option Addr) (l1 c1 : Nat) (w : World) (g0 : Given w (.slice a0 l0 c0)) (g1 : Given w (.slice a1 l1 c1)) :
    Calls Try.prog 11 #[.slice a0 l0 c0, .slice a1 l1 c1] w fun e w' => e = .returned (.bool true) ∧ RowKit.Below w.heap.size w w' := by
  obtain ⟨t0, h0, r0, m0⟩ := g0
  obtain ⟨t1, h1, r1, m1⟩ := g1
  show Calls Try.prog 11 [Value.slice a0 l0 c0, .slice a1 l1 c1].toArray w _
  refine calls_zc (n := 41) (f := 11) (fn := Try.f11) Try.func11 rfl rfl (by simp) ?_
  refine zc_seq ?_
  refine zc_region ?_
  refine zl_pureL rfl ?_
  refine zl_nil ?_
  refine zk_seq ?_
  iterate 2 (refine zc_seq ?_)
  refine zc_region ?_
  refine zl_call (by first | exact want_none | exact want_L rfl) rfl (by decide) rfl known_calls ?_
  rintro _ w1 ⟨rfl, hC1⟩
  refine ⟨_, rfl, ?_⟩
  refine zl_pureL rfl ?_
  refine zl_nil ?_
  refine zk_seq ?_
  refine zc_false rfl ?_
  refine zc_skip ?_
  refine zk_seq ?_
  iterate 2 (refine zc_seq ?_)
  refine zc_region ?_
  refine zl_pureL rfl ?_
  refine zl_call (by first | exact want_none | exact want_L rfl) rfl (by decide) rfl (Small_calls (h0.no hC1) r0 m0) ?_
  rintro _ w2 ⟨q2, rfl, hq2, hC2⟩
  refine ⟨_, rfl, ?_⟩
  have hC2 := hC1.no hC2
  cases q2
  · iterate 3 (refine zl_pureL rfl ?_)
    refine zl_skip rfl ?_
    iterate 2 (refine zl_pureL rfl ?_)
    refine zl_nil ?_
    refine zk_seq ?_
    refine zc_true rfl ?_
    refine zc_seq ?_
    refine zc_region ?_
    refine zl_pureL rfl ?_
    refine zl_nil ?_
    refine zk_seq ?_
    refine zc_ret ?_
    refine zk_ret_then ?_
    exact zk_ret1 (.inr rfl) rfl rfl ⟨rfl, hC2.below⟩
  have s0 := hq2 rfl
  iterate 3 (refine zl_pureL rfl ?_)
  refine zl_call (by first | exact want_none | exact want_L rfl) rfl (by decide) rfl (Small_calls (h1.no hC2) r1 m1) ?_
  rintro _ w3 ⟨q3, rfl, hq3, hC3⟩
  refine ⟨_, rfl, ?_⟩
  have hC3 := hC2.no hC3
  cases q3
  · iterate 2 (refine zl_pureL rfl ?_)
    refine zl_nil ?_
    refine zk_seq ?_
    refine zc_true rfl ?_
    refine zc_seq ?_
    refine zc_region ?_
    refine zl_pureL rfl ?_
    refine zl_nil ?_
    refine zk_seq ?_
    refine zc_ret ?_
    refine zk_ret_then ?_
    exact zk_ret1 (.inr rfl) rfl rfl ⟨rfl, hC3.below⟩
  have s1 := hq3 rfl
  have z0 := sizeA_size t0
  have z1 := sizeA_size t1
  have f0 := sizeA_few t0 (by omega)
  have f1 := sizeA_few t1 (by omega)
  iterate 2 (refine zl_pureL rfl ?_)
  refine zl_nil ?_
  refine zk_seq ?_
  refine zc_false rfl ?_
  refine zc_skip ?_
  refine zk_seq ?_
  refine zc_seq ?_
  refine zc_region ?_
  refine zl_pureL rfl ?_
  refine zl_call (by first | exact want_none | exact want_L rfl) rfl (by decide) rfl (sound_calls 300 (h0.no hC3) f0 (by omega) (by decide)) ?_
  rintro _ w4 ⟨q4, rfl, hq4, hC4⟩
  refine ⟨_, rfl, ?_⟩
  have hC4 := hC3.no hC4
  refine zl_pureL rfl ?_
  refine zl_call (by first | exact want_none | exact want_L rfl) rfl (by decide) rfl (soundR_calls 300 (h0.no hC4) f0 (by omega) (by decide)) ?_
  rintro _ w5 ⟨q5, rfl, hq5, hC5⟩
  refine ⟨_, rfl, ?_⟩
  have hC5 := hC4.no hC5
  obtain rfl := iff_eq hq4 hq5
  refine z_eqT (by first | exact want_none | exact want_L rfl) (by decide) rfl rfl ?_
  rw [show (q5 == q5) = true from by simp]
  iterate 2 (refine zl_pureL rfl ?_)
  refine zl_call (by first | exact want_none | exact want_L rfl) rfl (by decide) rfl (deep_calls 300 (h0.no hC5) (by omega) (by decide)) ?_
  rintro _ w6 ⟨rfl, hC6⟩
  refine ⟨_, rfl, ?_⟩
  have hC6 := hC5.no hC6
  refine zl_pureL rfl ?_
  refine zl_call (by first | exact want_none | exact want_L rfl) rfl (by decide) rfl (deepR_calls 300 (h0.no hC6) (by omega) (by decide)) ?_
  rintro _ w7 ⟨rfl, hC7⟩
  refine ⟨_, rfl, ?_⟩
  have hC7 := hC6.no hC7
  refine z_cmpB (r := true) (want_L rfl) (by decide) rfl rfl rfl (iff_of_true rfl (by omega)) ?_
  iterate 4 (refine zl_pureL rfl ?_)
  refine zl_call (by first | exact want_none | exact want_L rfl) rfl (by decide) rfl (same_calls 300 (h0.no hC7) (h1.no hC7) f0 f1 (by omega) (by decide)) ?_
  rintro _ w8 ⟨q8, rfl, hq8, hC8⟩
  refine ⟨_, rfl, ?_⟩
  have hC8 := hC7.no hC8
  iterate 2 (refine zl_pureL rfl ?_)
  refine zl_call (by first | exact want_none | exact want_L rfl) rfl (by decide) rfl (sameR_calls 300 (h0.no hC8) (h1.no hC8) f0 f1 (by omega) (by decide)) ?_
  rintro _ w9 ⟨q9, rfl, hq9, hC9⟩
  refine ⟨_, rfl, ?_⟩
  have hC9 := hC8.no hC9
  obtain rfl := iff_eq hq8 hq9
  refine z_eqT (by first | exact want_none | exact want_L rfl) (by decide) rfl rfl ?_
  rw [show (q9 == q9) = true from by simp]
  iterate 4 (refine zl_pureL rfl ?_)
  refine zl_call (by first | exact want_none | exact want_L rfl) rfl (by decide) rfl (same_calls 300 (h0.no hC9) (h0.no hC9) f0 f0 (by omega) (by decide)) ?_
  rintro _ w10 ⟨q10, rfl, hq10, hC10⟩
  refine ⟨_, rfl, ?_⟩
  obtain rfl := hq10.2 rfl
  iterate 2 (refine zl_pureL rfl ?_)
  refine zl_nil ?_
  refine zk_seq ?_
  refine zc_ret ?_
  exact zk_ret1 (.inr rfl) rfl rfl ⟨rfl, (hC9.no hC10).below⟩
set_option maxHeartbeats 8000000 in
theorem DomNumbers_walk (a0 : Option Addr) (l0 c0 : Nat) (w : World) (g0 : Given w (.slice a0 l0 c0)) :
    Calls Try.prog 8 #[.slice a0 l0 c0] w fun e w' => e = .returned (.bool true) ∧ RowKit.Below w.heap.size w w' := by
  obtain ⟨t, h0, r0, m0⟩ := g0
  show Calls Try.prog 8 [Value.slice a0 l0 c0].toArray w _
  refine calls_zc (n := 42) (f := 8) (fn := Try.f8) Try.func8 rfl rfl (by simp) ?_
  refine zc_seq ?_
  refine zc_region ?_
  refine zl_pureL rfl ?_
  refine zl_nil ?_
  refine zk_seq ?_
  iterate 2 (refine zc_seq ?_)
  refine zc_region ?_
  refine zl_call (by first | exact want_none | exact want_L rfl) rfl (by decide) rfl known_calls ?_
  rintro _ w1 ⟨rfl, hC1⟩
  refine ⟨_, rfl, ?_⟩
  refine zl_pureL rfl ?_
  refine zl_nil ?_
  refine zk_seq ?_
  refine zc_false rfl ?_
  refine zc_skip ?_
  refine zk_seq ?_
  iterate 2 (refine zc_seq ?_)
  refine zc_region ?_
  refine zl_pureL rfl ?_
  refine zl_call (by first | exact want_none | exact want_L rfl) rfl (by decide) rfl (Small_calls (h0.no hC1) r0 m0) ?_
  rintro _ w2 ⟨q2, rfl, hq2, hC2⟩
  refine ⟨_, rfl, ?_⟩
  have hC2 := hC1.no hC2
  cases q2
  · refine zl_pureL rfl ?_
    refine zl_nil ?_
    refine zk_seq ?_
    refine zc_true rfl ?_
    refine zc_seq ?_
    refine zc_region ?_
    refine zl_pureL rfl ?_
    refine zl_nil ?_
    refine zk_seq ?_
    refine zc_ret ?_
    refine zk_ret_then ?_
    exact zk_ret1 (.inr rfl) rfl rfl ⟨rfl, hC2.below⟩
  have s0 := hq2 rfl
  have z0 := sizeA_size t
  have f0 := sizeA_few t (by omega)
  have nz := numT_size 1 t
  have nf := numT_few 1 t f0
  refine zl_pureL rfl ?_
  refine zl_nil ?_
  refine zk_seq ?_
  refine zc_false rfl ?_
  refine zc_skip ?_
  refine zk_seq ?_
  refine zc_seq ?_
  refine zc_region ?_
  refine zl_pureL rfl ?_
  refine zl_call (by first | exact want_none | exact want_L rfl) rfl (by decide) rfl (number_calls (h0.no hC2) f0 (by omega)) ?_
  rintro _ w3 ⟨v3, rfl, t3, hC3⟩
  refine ⟨_, rfl, ?_⟩
  have hC3 := hC2.no hC3
  refine zl_pureL rfl ?_
  refine zl_nil ?_
  refine zk_seq ?_
  refine zc_seq ?_
  refine zc_region ?_
  iterate 2 (refine zl_pureL rfl ?_)
  refine zl_call (by first | exact want_none | exact want_L rfl) rfl (by decide) rfl (NumberR_calls (h0.no hC3) f0 (by omega)) ?_
  rintro _ w4 ⟨v4, rfl, t4, hC4⟩
  refine ⟨_, rfl, ?_⟩
  have t3 := t3.no hC4
  have hC4 := hC3.no hC4
  refine zl_call (by first | exact want_none | exact want_L rfl) rfl (by decide) rfl (sameR_calls 300 (TreeAt.of t3) t4 nf nf (by omega) (by decide)) ?_
  rintro _ w5 ⟨q5, rfl, hq5, hC5⟩
  refine ⟨_, rfl, ?_⟩
  have t3 := t3.no hC5
  have hC5 := hC4.no hC5
  obtain rfl := hq5.2 rfl
  iterate 2 (refine zl_pureL rfl ?_)
  refine zl_call (by first | exact want_none | exact want_L rfl) rfl (by decide) rfl (texts_calls 300 (h0.no hC5) f0 (by omega) (by decide)) ?_
  rintro _ w6 ⟨v6, rfl, x6, hC6⟩
  refine ⟨_, rfl, ?_⟩
  have t3 := t3.no hC6
  have hC6 := hC5.no hC6
  have hx := txts_len t
  refine zl_pureL rfl ?_
  refine zl_call (by first | exact want_none | exact want_L rfl) rfl (by decide) rfl (textsR_calls 300 (h0.no hC6) f0 (by omega) (by decide)) ?_
  rintro _ w7 ⟨v7, rfl, x7, hC7⟩
  refine ⟨_, rfl, ?_⟩
  have t3 := t3.no hC7
  have x6 := x6.no hC7
  have hC7 := hC6.no hC7
  refine zl_call (by first | exact want_none | exact want_L rfl) rfl (by decide) rfl (strsSame_calls x6 x7 (by omega) (by omega)) ?_
  rintro _ w8 ⟨rfl, hC8⟩
  refine ⟨_, rfl, ?_⟩
  have t3 := t3.no hC8
  have hC8 := hC7.no hC8
  rw [decide_eq_true (rfl : txts t = txts t)]
  iterate 3 (refine zl_pureL rfl ?_)
  refine zl_call (by first | exact want_none | exact want_L rfl) rfl (by decide) rfl (D.texts_calls 300 t3 nf (by omega) (by decide)) ?_
  rintro _ w9 ⟨v9, rfl, x9, hC9⟩
  refine ⟨_, rfl, ?_⟩
  rw [numT_txts] at x9
  have t3 := t3.no hC9
  have hC9 := hC8.no hC9
  refine zl_pureL rfl ?_
  refine zl_call (by first | exact want_none | exact want_L rfl) rfl (by decide) rfl (texts_calls 300 (h0.no hC9) f0 (by omega) (by decide)) ?_
  rintro _ w10 ⟨v10, rfl, x10, hC10⟩
  refine ⟨_, rfl, ?_⟩
  have t3 := t3.no hC10
  have x9 := x9.no hC10
  have hC10 := hC9.no hC10
  refine zl_call (by first | exact want_none | exact want_L rfl) rfl (by decide) rfl (strsSame_calls x9 x10 (by omega) (by omega)) ?_
  rintro _ w11 ⟨rfl, hC11⟩
  refine ⟨_, rfl, ?_⟩
  have t3 := t3.no hC11
  have hC11 := hC10.no hC11
  rw [decide_eq_true (rfl : txts t = txts t)]
  iterate 3 (refine zl_pureL rfl ?_)
  refine zl_call (by first | exact want_none | exact want_L rfl) rfl (by decide) rfl (D.number_calls t3 nf (by omega)) ?_
  rintro _ w12 ⟨v12, rfl, t12, hC12⟩
  refine ⟨_, rfl, ?_⟩
  rw [numT_idem] at t12
  have t3 := t3.no hC12
  have hC12 := hC11.no hC12
  refine zl_pureL rfl ?_
  refine zl_call (by first | exact want_none | exact want_L rfl) rfl (by decide) rfl (D.sameR_calls 300 t12 t3 nf nf (by omega) (by decide)) ?_
  rintro _ w13 ⟨q13, rfl, hq13, hC13⟩
  refine ⟨_, rfl, ?_⟩
  have t3 := t3.no hC13
  have hC13 := hC12.no hC13
  obtain rfl := hq13.2 rfl
  iterate 3 (refine zl_pureL rfl ?_)
  refine zl_call (by first | exact want_none | exact want_L rfl) rfl (by decide) rfl (D.deep_calls 300 t3 (by omega) (by decide)) ?_
  rintro _ w14 ⟨rfl, hC14⟩
  refine ⟨_, rfl, ?_⟩
  have hC14 := hC13.no hC14
  rw [numT_deep]
  refine zl_pureL rfl ?_
  refine zl_call (by first | exact want_none | exact want_L rfl) rfl (by decide) rfl (deep_calls 300 (h0.no hC14) (by omega) (by decide)) ?_
  rintro _ w15 ⟨rfl, hC15⟩
  refine ⟨_, rfl, ?_⟩
  refine z_cmpB (r := true) (want_L rfl) (by decide) rfl rfl rfl (iff_of_true rfl (by omega)) ?_
  iterate 2 (refine zl_pureL rfl ?_)
  refine zl_nil ?_
  refine zk_seq ?_
  refine zc_ret ?_
  exact zk_ret1 (.inr rfl) rfl rfl ⟨rfl, (hC14.no hC15).below⟩
end Go.Proofs.Ytjiehalanklapaa.V
