import Derived.Test.YteeibieaapiomaaSFosL
/- SiteFosters: the walk. -/
namespace Go.Proofs.Yteeibieaapiomaa.D
open Go Go.Z Go.Proofs
set_option linter.unusedVariables false
set_option maxRecDepth 100000 in
set_option maxHeartbeats 16000000 in
theorem SiteFosters_walk (k : Int) (a b : ByteArray) (on : Bool) (w : World) (ha : a.size ≤ 140737488351232) (hb : b.size ≤ 140737488351232) : Calls Try.prog 6 #[.int .i64 k, .string a, .string b, .bool on] w fun e w' => e = .returned (.bool true) ∧ RowKit.Below w.heap.size w w' := by
  show Calls Try.prog 6 [Value.int .i64 k, .string a, .string b, .bool on].toArray w _
  obtain ⟨i, hi⟩ := Int.eq_ofNat_of_zero_le (Int.emod_nonneg k (show ((3 : Nat) : Int) ≠ 0 by decide))
  have hi3 : i < 3 := by have := Int.emod_lt_of_pos k (show (0 : Int) < ((3 : Nat) : Int) by decide); omega
  obtain ⟨la, rfl⟩ := bs_ex a
  obtain ⟨lb, rfl⟩ := bs_ex b
  rw [bs_size] at ha hb
  refine calls_zc (n := 115) (f := 6) (fn := Try.f6) Try.func6 rfl rfl (by simp) ?_
  refine zc_seq ?_
  refine zc_region ?_
  refine zl_pureL rfl ?_
  refine zl_nil ?_
  refine zk_seq ?_
  iterate 2 (refine zc_seq ?_)
  refine zc_region ?_
  refine zl_call (by first | exact want_none | exact want_L rfl) rfl (by decide) rfl known8_calls ?_
  rintro _ w1 ⟨rfl, hC1⟩
  refine ⟨_, rfl, ?_⟩
  refine zl_pureL rfl ?_
  refine zl_nil ?_
  refine zk_seq ?_
  refine zc_false rfl ?_
  refine zc_skip ?_
  refine zk_seq ?_
  iterate 2 (refine zc_seq ?_)
  refine zc_region ?_
  refine zl_pureL rfl ?_
  refine z_eqLB (q := decide (la = [])) (by first | exact want_none | exact want_L rfl) (by decide) rfl rfl decide_eq_true_iff ?_
  cases la with
  | nil =>
    iterate 2 (refine zl_pureL rfl ?_)
    refine zl_skip rfl ?_
    iterate 3 (refine zl_pureL rfl ?_)
    refine zl_skip rfl ?_
    refine zl_pureL rfl ?_
    iterate 3 (refine zl_skip rfl ?_)
    refine zl_pureL rfl ?_
    refine zl_nil ?_
    refine zk_seq ?_
    refine zc_true rfl ?_
    refine zc_seq ?_
    refine zc_region ?_
    refine zl_pureL rfl ?_
    refine zl_nil ?_
    refine zk_seq ?_
    refine zc_ret ?_
    refine zk_ret_then ?_
    exact zk_ret1 (.inr rfl) rfl rfl ⟨rfl, hC1.below⟩
  | cons xa ra =>
  rw [decide_eq_false (by simp)]
  iterate 2 (refine zl_pureL rfl ?_)
  refine z_eqLB (q := decide (lb = [])) (by first | exact want_none | exact want_L rfl) (by decide) rfl rfl decide_eq_true_iff ?_
  cases lb with
  | nil =>
    iterate 3 (refine zl_pureL rfl ?_)
    refine zl_skip rfl ?_
    refine zl_pureL rfl ?_
    iterate 3 (refine zl_skip rfl ?_)
    refine zl_pureL rfl ?_
    refine zl_nil ?_
    refine zk_seq ?_
    refine zc_true rfl ?_
    refine zc_seq ?_
    refine zc_region ?_
    refine zl_pureL rfl ?_
    refine zl_nil ?_
    refine zk_seq ?_
    refine zc_ret ?_
    refine zk_ret_then ?_
    exact zk_ret1 (.inr rfl) rfl rfl ⟨rfl, hC1.below⟩
  | cons xb rb =>
  rw [decide_eq_false (by simp)]
  iterate 3 (refine zl_pureL rfl ?_)
  refine z_lenL (want_L rfl) (by decide) rfl ?_
  refine zl_pureL rfl ?_
  refine z_lenL (want_L rfl) (by decide) rfl ?_
  refine z_add (want_L rfl) (by decide) rfl rfl (by omega) (by omega) ?_
  by_cases hlen : (xa :: ra).length + (xb :: rb).length ≤ 200
  rotate_left
  · refine z_cmpB (r := true) (want_L rfl) (by decide) rfl rfl rfl (iff_of_true rfl (by omega)) ?_
    refine zl_pureL rfl ?_
    refine zl_nil ?_
    refine zk_seq ?_
    refine zc_true rfl ?_
    refine zc_seq ?_
    refine zc_region ?_
    refine zl_pureL rfl ?_
    refine zl_nil ?_
    refine zk_seq ?_
    refine zc_ret ?_
    refine zk_ret_then ?_
    exact zk_ret1 (.inr rfl) rfl rfl ⟨rfl, hC1.below⟩
  refine z_cmpB (r := false) (want_L rfl) (by decide) rfl rfl rfl (iff_of_false Bool.false_ne_true (by omega)) ?_
  refine zl_pureL rfl ?_
  refine zl_nil ?_
  refine zk_seq ?_
  refine zc_false rfl ?_
  refine zc_skip ?_
  refine zk_seq ?_
  refine zc_seq ?_
  refine zc_region ?_
  refine zl_call (by first | exact want_none | exact want_L rfl) rfl (by decide) rfl (sNewL_calls hC1) ?_
  rintro _ w2 ⟨s, q, rfl, h2, _, _⟩
  refine ⟨_, rfl, ?_⟩
  refine zl_pureL rfl ?_
  refine zl_nil ?_
  refine zk_seq ?_
  iterate 2 (refine zc_seq ?_)
  refine zc_region ?_
  refine zl_pureL rfl ?_
  refine z_eqPN (by first | exact want_none | exact want_L rfl) (by decide) rfl rfl ?_
  iterate 2 (refine zl_pureL rfl ?_)
  refine zl_call (by first | exact want_none | exact want_L rfl) rfl (by decide) rfl (sDoc_calls h2.is) ?_
  rintro _ u ⟨rfl, hu⟩
  obtain rfl := hu.symm
  refine ⟨_, rfl, ?_⟩
  refine z_eqPN (by first | exact want_none | exact want_L rfl) (by decide) rfl rfl ?_
  refine zl_pureL rfl ?_
  refine zl_nil ?_
  refine zk_seq ?_
  refine zc_false rfl ?_
  refine zc_skip ?_
  refine zk_seq ?_
  refine zc_seq ?_
  refine zc_region ?_
  refine z_bsE (nmsC fNm) (by first | exact want_none | exact want_L rfl) (by decide) rfl (by decide) (by decide) (by kernel_rfl) (fun w3 b7 hN7 => ?_)
  have hns : NS w3 (.slice (some ⟨b7, 0, none⟩) 3 3) fNm := RdS.new hN7 rfl (nmsC_one _)
  have h3 := h2.no hN7.chg
  refine zl_pureL rfl ?_
  refine zl_nil ?_
  refine zk_seq ?_
  refine zc_seq ?_
  refine zc_region ?_
  refine zl_pureL rfl ?_
  refine zl_call (by first | exact want_none | exact want_L rfl) rfl (by decide) rfl (within8_calls (n := 3) (by decide) (by decide)) ?_
  rintro _ u ⟨rfl, hu⟩
  obtain rfl := hu.symm
  refine ⟨_, rfl, ?_⟩
  rw [hi]
  refine z_add want_none (by decide) rfl rfl (by omega) (by omega) ?_
  refine zl_pureL rfl ?_
  refine zl_nil ?_
  refine zk_seq ?_
  iterate 2 (refine zc_seq ?_)
  refine zc_region ?_
  refine zl_pureL rfl ?_
  refine zl_nil ?_
  refine zk_seq ?_
  refine zc_block ?_
  obtain ⟨n, hn⟩ : ∃ n, n = i + 1 := ⟨_, rfl⟩
  have hn1 : (1 : Int) + (i : Nat) = (n : Nat) := by omega
  rw [hn1]
  refine zc_loopW (ι := Nat × SP × List Bool × (ByteArray → Int)) (fun k u => [(1, .string (bs (xa :: ra))), (2, .string (bs (xb :: rb))), (3, .bool on), (9, .pointer (some ⟨s, 0, none⟩)), (10, .slice (some ⟨b7, 0, none⟩) 3 3), (11, .int .i64 (n : Nat)), (12, .int .i64 (k.1 : Nat))])
    (fun k u => k.1 ≤ n ∧ SF w u s k.2.1 (lnE (fL k.1)) k.2.2.1 k.2.2.2 (lnN (fL k.1)) false ∧ WrS w3 u s q k.2.1) (fun k u => n - k.1) (0, q, [true], fun _ => 0)
    ⟨Nat.zero_le _, h3, WrS.refl _ _ _⟩ ?_ ?_
  · exact ⟨rfl, rfl, rfl, rfl, rfl, rfl, rfl, trivial⟩
  rintro ⟨j, qj, Ij, mj⟩ u ⟨hj, hS, hW⟩
  dsimp only at hj hS hW ⊢
  have hnu : NS u (.slice (some ⟨b7, 0, none⟩) 3 3) fNm := RdS.chg hns hW.chg (fun b cells hb => h3.is.noT hb (by decide) (by decide) (by decide) (by decide) (by decide) (by decide) (by decide) (by decide))
  iterate 2 (refine zc_seq ?_)
  refine zc_region ?_
  iterate 2 (refine zl_pureL rfl ?_)
  by_cases hlt : j < n
  · obtain ⟨bn, on', cn, hvn, _, hcn⟩ := RdS.some hnu (by decide)
    cases hvn
    have gx : u.cell? ⟨b7, 0 + j, none⟩ = some (.string (fNm.getD j eb)) := hcn j _ (nmsC_get fNm j (by show j < 3; omega))
    obtain ⟨e1, e2⟩ := fL_succ j (by omega)
    refine z_cmpB (r := true) want_none (by decide) rfl rfl rfl (iff_of_true rfl (by omega)) ?_
    refine zl_nil ?_
    refine zk_seq ?_
    refine zc_true rfl ?_
    refine zc_skip ?_
    refine zk_seq ?_
    refine zc_seq ?_
    refine zc_block ?_
    refine zc_region ?_
    iterate 3 (refine zl_pureL rfl ?_)
    refine z_ia want_none (by decide) rfl rfl (by omega) (by omega) ?_
    refine z_load1 (by first | exact want_none | exact want_L rfl) (by decide) rfl (cell_at gx (by omega)) ?_
    skip
    refine zl_call (by first | exact want_none | exact want_L rfl) rfl (by decide) rfl (hS.addL (by rw [e2]; omega) (fNm.getD j eb) rfl) ?_
    rintro _ u2 ⟨rfl, q2, I2, m2, hq2, hW2, hS2⟩
    refine ⟨_, rfl, ?_⟩
    rw [e1] at hS2
    refine zl_nil ?_
    refine zk_norm_block ?_
    refine zk_seq ?_
    refine zc_region ?_
    refine zl_pureL rfl ?_
    refine z_add want_none (by decide) rfl rfl (by omega) (by omega) ?_
    refine zl_pureL rfl ?_
    refine zl_nil ?_
    refine zk_loopW (j + 1, q2, I2, m2) ⟨by dsimp only; omega, hS2, hW.trans hW2⟩ (by dsimp only; omega) ⟨rfl, rfl, rfl, rfl, rfl, rfl, rfl, trivial⟩
  · obtain rfl : j = n := by omega
    have hfl := fL_len j (by omega)
    have hlast : ((lastE (lnE (fL j))).n : Int) = (j : Nat) := by rw [lnE_last, hfl]
    refine z_cmpB (r := false) want_none (by decide) rfl rfl rfl (iff_of_false Bool.false_ne_true (by omega)) ?_
    refine zl_nil ?_
    refine zk_seq ?_
    refine zc_false rfl ?_
    refine zc_exit ?_
    iterate 2 (refine zk_exit_then ?_)
    refine zk_exit_block ?_
    refine zk_seq ?_
    refine zc_seq ?_
    refine zc_region ?_
    iterate 2 (refine zl_pureL rfl ?_)
    refine zl_call (by first | exact want_none | exact want_L rfl) rfl (by decide) rfl (hS.foster on) ?_
    rintro _ u1 ⟨rfl, hS1, _⟩
    refine ⟨_, rfl, ?_⟩
    refine zl_nil ?_
    refine zk_seq ?_
    refine zc_seq ?_
    refine zc_region ?_
    iterate 2 (refine zl_pureL rfl ?_)
    refine zl_call (by first | exact want_none | exact want_L rfl) rfl (by decide) rfl (hS1.type (lnN_big _) (by rw [lnN_len]; omega) (xa :: ra) (by omega)) ?_
    rintro _ u2 ⟨rfl, q2, N2, p2, _, _, hR2, hS2⟩
    refine ⟨_, rfl, ?_⟩
    rw [hlast] at hR2
    have e2 := f_write1 (by omega) (by omega) hR2
    subst e2
    have hfn : ∀ t, (fN on j t).length ≤ 5 := fun t => by unfold fN; split <;> simp
    have hl2 := hfn (xa :: ra)
    refine zl_nil ?_
    refine zk_seq ?_
    refine zc_seq ?_
    refine zc_region ?_
    iterate 2 (refine zl_pureL rfl ?_)
    refine zl_call (by first | exact want_none | exact want_L rfl) rfl (by decide) rfl (hS2.type (f_big (by omega) (by omega) _ (by omega)) (by omega) (xb :: rb) (by omega)) ?_
    rintro _ u3 ⟨rfl, q3, N3, p3, _, _, hR3, hS3⟩
    refine ⟨_, rfl, ?_⟩
    rw [hlast] at hR3
    have e3 := f_write2 (by omega) (by omega) _ hR3
    subst e3
    obtain ⟨T, hT⟩ : ∃ T, T = xa :: ra ++ xb :: rb := ⟨_, rfl⟩
    have hTl : T.length ≤ 200 := by rw [hT, List.length_append]; omega
    rw [← hT] at hS3
    have hl3 := hfn T
    have hB3 := f_big (on := on) (n := j) (by omega) (by omega) T (by omega)
    refine zl_nil ?_
    refine zk_seq ?_
    refine zc_seq ?_
    refine zc_region ?_
    refine zl_pureL rfl ?_
    refine zl_call (by first | exact want_none | exact want_L rfl) rfl (by decide) rfl (sDoc_calls hS3.is) ?_
    rintro _ v ⟨rfl, hv⟩
    obtain rfl := hv.symm
    refine ⟨_, rfl, ?_⟩
    skip
    cases on
    · obtain ⟨y, kk, hy, htx, hdp, hTF, hsz⟩ := f_treeOff (n := j) (by omega) (by omega) T
      refine zl_call (by first | exact want_none | exact want_L rfl) rfl (by decide) rfl (tree_calls hS3.wf (by omega) hB3 _ hS3.is.doc 0 hS3.wf.pos _ hTF (Nat.le_refl _)) ?_
      rintro _ u4 ⟨vo, rfl, hT4, hC4⟩
      refine ⟨_, rfl, ?_⟩
      have hA4 := hT4.at'
      obtain ⟨bt, ot, ct, x', k', r', A', K', e5, hv5, hc5, _, _⟩ := hA4.at_ 0 (by show 0 < 1; decide)
      cases e5
      have hv6 : vo = .slice (some ⟨bt, ot, none⟩) 1 ct := hv5
      clear hv5
      subst hv6
      have g2 := hc5.c2
      rw [hy] at g2
      refine zl_pureL rfl ?_
      refine zl_nil ?_
      refine zk_seq ?_
      iterate 2 (refine zc_seq ?_)
      refine zc_region ?_
      refine zl_pureL rfl ?_
      refine zl_nil ?_
      refine zk_seq ?_
      refine zc_false rfl ?_
      refine zc_skip ?_
      refine zk_seq ?_
      refine zc_seq ?_
      refine zc_region ?_
      refine zl_pureL rfl ?_
      refine z_len want_none (by decide) rfl ?_
      refine z_cmpB (r := true) want_none (by decide) rfl rfl rfl (iff_of_true rfl (by omega)) ?_
      iterate 2 (refine zl_pureL rfl ?_)
      refine z_ia (want_L rfl) (by decide) rfl rfl (by omega) (by omega) ?_
      refine z_fa (want_L rfl) (by decide) rfl ?_
      refine z_load1 (want_L rfl) (by decide) rfl (by assumption) ?_
      refine z_eqSB (a := sTbl) (b := sTbl) (by first | exact want_none | exact want_L rfl) (by decide) rfl rfl ?_
      rw [decide_eq_true rfl]
      iterate 3 (refine zl_pureL rfl ?_)
      refine zl_call (by first | exact want_none | exact want_L rfl) rfl (by decide) rfl (textsR_calls 10 hA4 (hTF.few (fun i => (hB3 i).2)) hsz (by decide)) ?_
      rintro _ u5 ⟨v5, rfl, hs5, hC5⟩
      refine ⟨_, rfl, ?_⟩
      obtain ⟨A5, c5, rfl, _⟩ := hs5.form
      rw [htx]
      refine z_len (want_L rfl) (by decide) rfl ?_
      refine z_cmpB (r := true) (want_L rfl) (by decide) rfl rfl rfl (iff_of_true rfl (by omega)) ?_
      iterate 3 (refine zl_pureL rfl ?_)
      refine zl_call (by first | exact want_none | exact want_L rfl) rfl (by decide) rfl (deepR_calls 10 (hA4.no hC5) hsz (by decide)) ?_
      rintro _ u6 ⟨rfl, hC6⟩
      refine ⟨_, rfl, ?_⟩
      rw [hdp]
      have hE := (((hS3.no hC4).no hC5).no hC6).chg
      refine zl_pureL rfl ?_
      refine z_add (want_L rfl) (by decide) rfl rfl (by omega) (by omega) ?_
      refine z_cmpB (r := true) (want_L rfl) (by decide) rfl rfl rfl (iff_of_true rfl (by omega)) ?_
      iterate 2 (refine zl_pureL rfl ?_)
      refine zl_nil ?_
      refine zk_seq ?_
      refine zc_ret ?_
      exact zk_ret1 (.inr rfl) rfl rfl ⟨rfl, hE.below⟩
    · obtain ⟨x, y, kk, hx, hy, htx, hTF, hsz⟩ := f_treeOn (n := j) (by omega) (by omega) T
      refine zl_call (by first | exact want_none | exact want_L rfl) rfl (by decide) rfl (tree_calls hS3.wf (by omega) hB3 _ hS3.is.doc 0 hS3.wf.pos _ hTF (Nat.le_refl _)) ?_
      rintro _ u4 ⟨vo, rfl, hT4, hC4⟩
      refine ⟨_, rfl, ?_⟩
      have hA4 := hT4.at'
      obtain ⟨bt, ot, ct, x', k', r', A', K', e5, hv5, hc5, _, _⟩ := hA4.at_ 0 (by show 0 < 2; decide)
      cases e5
      have hv6 : vo = .slice (some ⟨bt, ot, none⟩) 2 ct := hv5
      clear hv5
      subst hv6
      obtain ⟨bt2, ot2, ct2, x2, k2, r2, A2, K2, e6, hv6, hc6, _, _⟩ := hA4.at_ 1 (by show 1 < 2; decide)
      cases e6
      cases hv6
      have g4 := hc5.c4
      rw [hx] at g4
      have g2 := hc6.c2
      rw [hy] at g2
      refine zl_pureL rfl ?_
      refine zl_nil ?_
      refine zk_seq ?_
      iterate 2 (refine zc_seq ?_)
      refine zc_region ?_
      refine zl_pureL rfl ?_
      refine zl_nil ?_
      refine zk_seq ?_
      refine zc_true rfl ?_
      refine zc_seq ?_
      refine zc_region ?_
      refine zl_pureL rfl ?_
      refine z_len want_none (by decide) rfl ?_
      refine z_cmpB (r := true) want_none (by decide) rfl rfl rfl (iff_of_true rfl (by omega)) ?_
      iterate 2 (refine zl_pureL rfl ?_)
      refine z_ia (want_L rfl) (by decide) rfl rfl (by omega) (by omega) ?_
      refine z_fa (want_L rfl) (by decide) rfl ?_
      refine z_load1 (want_L rfl) (by decide) rfl (by assumption) ?_
      iterate 2 (refine zl_pureL rfl ?_)
      refine z_catL (want_L rfl) (by decide) rfl rfl (by omega) ?_
      rw [← hT]
      refine z_eqSB (a := bs T) (b := bs T) (by first | exact want_none | exact want_L rfl) (by decide) rfl rfl ?_
      rw [decide_eq_true rfl]
      iterate 3 (refine zl_pureL rfl ?_)
      refine z_ia (want_L rfl) (by decide) rfl rfl (by omega) (by omega) ?_
      refine z_fa (want_L rfl) (by decide) rfl ?_
      refine z_load1 (want_L rfl) (by decide) rfl (by assumption) ?_
      refine z_eqSB (a := sTbl) (b := sTbl) (by first | exact want_none | exact want_L rfl) (by decide) rfl rfl ?_
      rw [decide_eq_true rfl]
      iterate 3 (refine zl_pureL rfl ?_)
      refine zl_call (by first | exact want_none | exact want_L rfl) rfl (by decide) rfl (textsR_calls 10 hA4 (hTF.few (fun i => (hB3 i).2)) hsz (by decide)) ?_
      rintro _ u5 ⟨v5, rfl, hs5, hC5⟩
      refine ⟨_, rfl, ?_⟩
      obtain ⟨A5, c5, rfl, _⟩ := hs5.form
      have hl1 : (txts (NT.cons x .nil (.cons y kk .nil))).length = 1 := by rw [htx]; rfl
      rw [hl1]
      have hE := ((hS3.no hC4).no hC5).chg
      refine z_len (want_L rfl) (by decide) rfl ?_
      refine z_cmpB (r := true) (want_L rfl) (by decide) rfl rfl rfl (iff_of_true rfl (by omega)) ?_
      iterate 2 (refine zl_pureL rfl ?_)
      refine zl_nil ?_
      refine zk_seq ?_
      refine zc_ret ?_
      refine zk_ret_then ?_
      exact zk_ret1 (.inr rfl) rfl rfl ⟨rfl, hE.below⟩
end Go.Proofs.Yteeibieaapiomaa.D
