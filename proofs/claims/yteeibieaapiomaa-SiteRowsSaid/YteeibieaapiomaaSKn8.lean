import Derived.Test.YteeibieaapiomaaSLine
/- known. -/
namespace Go.Proofs.Yteeibieaapiomaa.D
open Go Go.Z Go.Proofs
set_option linter.unusedVariables false
def sP : ByteArray := ⟨#[112]⟩
def knN : List ND := [⟨1, 1, ⟨#[]⟩, [], [], -1, [1]⟩, ⟨1, 1, sP, [], [], 0, [2]⟩, ⟨2, 0, ⟨#[]⟩, [], [120], 1, []⟩]
theorem kn_spot : spotN (lnN [sP]) (lnE [sP]) false (lastE (lnE [sP])).n = (1, -1) := by rfl
theorem kn_write {p : Bool} {N' : List ND} (h : WriteR (lnN [sP]) [120] 1 (-1) p N') : N' = knN := by
  rw [(h.1 ⟨⟨by decide, by decide⟩, by rfl, by rfl⟩).2]
  rfl
theorem kn_tree : TF knN (knN.getD 0 n0).kids (.cons (hdOf (knN.getD 1 n0)) (.cons (hdOf (knN.getD 2 n0)) .nil .nil) .nil) := .cons _ _ _ _ (.cons _ _ _ _ .nil .nil) .nil
theorem kn_big : BigT knN := BigT.of (fun x hx => by
  simp only [knN, List.mem_cons, List.not_mem_nil, or_false] at hx
  rcases hx with rfl | rfl | rfl <;> exact ⟨by decide, by decide⟩)
set_option maxRecDepth 100000 in
set_option maxHeartbeats 16000000 in
theorem known8_calls {w : World} : Calls Try.prog 8 [].toArray w fun e w' => e = .returned (.bool true) ∧ Chg w w' No := by
  refine calls_zc (n := 58) (f := 8) (fn := Try.f8) Try.func8 rfl rfl (by simp) ?_
  refine zc_seq ?_
  refine zc_region ?_
  refine zl_pureL rfl ?_
  refine zl_nil ?_
  refine zk_seq ?_
  refine zc_seq ?_
  refine zc_region ?_
  refine zl_call (by first | exact want_none | exact want_L rfl) rfl (by decide) rfl (sNewL_calls (Chg.refl w No)) ?_
  rintro _ w1 ⟨s, q, rfl, h1, _, _⟩
  refine ⟨_, rfl, ?_⟩
  refine zl_pureL rfl ?_
  refine zl_nil ?_
  refine zk_seq ?_
  iterate 2 (refine zc_seq ?_)
  refine zc_region ?_
  refine zl_pureL rfl ?_
  refine z_eqPN (by first | exact want_none | exact want_L rfl) (by decide) rfl rfl ?_
  iterate 2 (refine zl_pureL rfl ?_)
  refine zl_call (by first | exact want_none | exact want_L rfl) rfl (by decide) rfl (sDoc_calls h1.is) ?_
  rintro _ u ⟨rfl, hu⟩
  obtain rfl := hu.symm
  refine ⟨_, rfl, ?_⟩
  refine z_eqPN (by first | exact want_none | exact want_L rfl) (by decide) rfl rfl ?_
  iterate 3 (refine zl_pureL rfl ?_)
  refine zl_call (by first | exact want_none | exact want_L rfl) rfl (by decide) rfl (sMarks_calls h1.is) ?_
  rintro _ u ⟨rfl, hu⟩
  obtain rfl := hu.symm
  refine ⟨_, rfl, ?_⟩
  refine z_eqPN (by first | exact want_none | exact want_L rfl) (by decide) rfl rfl ?_
  refine zl_pureL rfl ?_
  refine zl_nil ?_
  refine zk_seq ?_
  refine zc_false rfl ?_
  refine zc_skip ?_
  refine zk_seq ?_
  refine zc_seq ?_
  refine zc_region ?_
  refine zl_pureL rfl ?_
  refine zl_call (by first | exact want_none | exact want_L rfl) rfl (by decide) rfl (h1.addL (by decide) sP (z := 1) (by rfl)) ?_
  rintro _ w2 ⟨rfl, q2, I2, m2, hq2, hW2, h2⟩
  refine ⟨_, rfl, ?_⟩
  refine zl_pureL rfl ?_
  refine zl_nil ?_
  refine zk_seq ?_
  refine zc_seq ?_
  refine zc_region ?_
  refine zl_pureL rfl ?_
  refine zl_call (by first | exact want_none | exact want_L rfl) rfl (by decide) rfl (h2.type (lnN_big _) (by decide) [120] (by decide)) ?_
  rintro _ w3 ⟨rfl, q3, N3, p3, hq3, hW3, hR3, h3⟩
  refine ⟨_, rfl, ?_⟩
  have e3 : N3 = knN := kn_write (by have := hR3; exact this)
  subst e3
  refine zl_nil ?_
  refine zk_seq ?_
  refine zc_seq ?_
  refine zc_region ?_
  refine zl_pureL rfl ?_
  refine zl_call (by first | exact want_none | exact want_L rfl) rfl (by decide) rfl (sDoc_calls h3.is) ?_
  rintro _ u ⟨rfl, hu⟩
  obtain rfl := hu.symm
  refine ⟨_, rfl, ?_⟩
  skip
  refine zl_call (by first | exact want_none | exact want_L rfl) rfl (by decide) rfl (tree_calls h3.wf (by decide) kn_big _ h3.is.doc 0 (by decide) _ kn_tree (Nat.le_refl _)) ?_
  rintro _ w4 ⟨vo, rfl, hT4, hC4⟩
  refine ⟨_, rfl, ?_⟩
  have h4 := h3.no hC4
  obtain ⟨A4, c4, hv4, _⟩ : ∃ A c, vo = .slice A 1 c ∧ 1 ≤ c := hT4.at'.form
  obtain ⟨b, o, c, x, k, r, A, K, e5, hv5, hc5, hA5, hK5⟩ := hT4.at'.at_ 0 (by decide)
  cases e5
  obtain ⟨Ak, ck, hvk, _⟩ : ∃ A c, K = .slice A 1 c ∧ 1 ≤ c := hK5.form
  subst hvk
  have hv5' : vo = .slice (some ⟨b, o, none⟩) 1 c := hv5
  clear hv5
  rw [hv4] at hv5'
  subst hv4
  cases hv5'
  refine zl_pureL rfl ?_
  refine zl_nil ?_
  refine zk_seq ?_
  refine zc_seq ?_
  refine zc_region ?_
  refine zl_pureL rfl ?_
  refine z_cmpB (r := true) want_none (by decide) rfl rfl rfl (iff_of_true rfl (by omega)) ?_
  iterate 2 (refine zl_pureL rfl ?_)
  refine zl_call (by first | exact want_none | exact want_L rfl) rfl (by decide) rfl (h4.topZ (by decide) (z := 1) (by rfl)) ?_
  rintro _ w5 ⟨rfl, hC5⟩
  refine ⟨_, rfl, ?_⟩
  have hc6 := cell_no hC5 hc5.c6
  refine z_cmpB (r := true) (want_L rfl) (by decide) rfl rfl rfl (iff_of_true rfl (by omega)) ?_
  iterate 3 (refine zl_pureL rfl ?_)
  refine z_len (want_L rfl) (by decide) rfl ?_
  refine z_cmpB (r := true) (want_L rfl) (by decide) rfl rfl rfl (iff_of_true rfl (by omega)) ?_
  iterate 3 (refine zl_pureL rfl ?_)
  refine z_ia (want_L rfl) (by decide) rfl rfl (by omega) (by omega) ?_
  refine z_fa (want_L rfl) (by decide) rfl ?_
  refine z_load1 (want_L rfl) (by decide) rfl (by assumption) ?_
  refine z_len (want_L rfl) (by decide) rfl ?_
  refine z_cmpB (r := true) (want_L rfl) (by decide) rfl rfl rfl (iff_of_true rfl (by omega)) ?_
  iterate 3 (refine zl_pureL rfl ?_)
  refine z_bs1 (by first | exact want_none | exact want_L rfl) (by decide) rfl (by rfl) (by rfl) (by decide) (by decide) (fun w6 b6 hN6 => ?_)
  have hn6 : NS w6 (.slice (some ⟨b6, 0, none⟩) 1 1) [sP] := RdS.new hN6 rfl (nmsC_one _)
  have h6 := (h4.no hC5).no hN6.chg
  skip
  refine zl_call (by first | exact want_none | exact want_L rfl) rfl (by decide) rfl (h6.hasZ (by decide) hn6 (by decide) 1 (z := true) (by rfl)) ?_
  rintro _ w7 ⟨rfl, hC7⟩
  refine ⟨_, rfl, ?_⟩
  have h7 := h6.no hC7
  iterate 3 (refine zl_pureL rfl ?_)
  refine zl_call (by first | exact want_none | exact want_L rfl) rfl (by decide) rfl (h7.popZ (by decide) (z := true) (by rfl)) ?_
  rintro _ w8 ⟨rfl, q8, hq8, hW8, h8⟩
  refine ⟨_, rfl, ?_⟩
  rw [if_pos (by decide)] at h8
  iterate 3 (refine zl_pureL rfl ?_)
  refine zl_call (by first | exact want_none | exact want_L rfl) rfl (by decide) rfl (h8.popZ (by decide) (z := false) (by rfl)) ?_
  rintro _ w9 ⟨rfl, q9, hq9, hW9, h9⟩
  refine ⟨_, rfl, ?_⟩
  rw [if_neg (by decide)] at h9
  iterate 3 (refine zl_pureL rfl ?_)
  refine zl_nil ?_
  refine zk_seq ?_
  refine zc_ret ?_
  exact zk_ret1 (.inr rfl) rfl rfl ⟨rfl, h9.chg⟩
end Go.Proofs.Yteeibieaapiomaa.D
