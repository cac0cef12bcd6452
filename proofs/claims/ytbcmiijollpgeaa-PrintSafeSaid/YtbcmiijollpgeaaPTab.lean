import Derived.Test.YtbcmiijollpgeaaPFull
/- A table of a tape. -/
namespace Go.Proofs.Ytbcmiijollpgeaa.T
open Go Go.Z Go.Proofs
set_option linter.unusedVariables false
set_option maxHeartbeats 4000000 in
theorem titled_calls {w : World} {A F K : Value} {nm tx : List UInt8} {k : AT} (hA : isSl A) (hF : isSl F) (hK : TreeAt false w K k) (hsz : k.size ≤ 1000000000000) :
    Calls Try.prog 48 [.agg #[.string (bs nm), A, .string (bs tx), F, K]].toArray w fun e w' => (∃ q : Bool, e = .returned (.bool q)) ∧ Chg w w' No := by
  obtain ⟨A1, m1, c1, rfl⟩ := hA
  obtain ⟨A2, m2, c2, rfl⟩ := hF
  obtain ⟨AK, cK, rfl, hcK⟩ := hK.form
  have hls := k.len_size
  refine calls_zc (n := 48) (f := 48) (fn := Try.f48) Try.func48 rfl rfl (by simp) ?_
  refine zc_seq ?_
  refine zc_region ?_
  refine z_box (by first | exact want_none | exact want_L rfl) (by decide) rfl (fun w1 b1 hN1 => ?_)
  have hb1 : Blk w1 b1 38 [.string (bs nm), .slice A1 m1 c1, .string (bs tx), .slice A2 m2 c2, .slice AK k.len cK] := hN1.blk
  refine zl_pureL rfl ?_
  refine zl_nil ?_
  refine zk_seq ?_
  iterate 2 (refine zc_seq ?_)
  refine zc_region ?_
  refine zl_pureL rfl ?_
  refine zl_nil ?_
  refine zk_seq ?_
  refine zc_block ?_
  refine zc_loopW (ι := Nat) (fun i u => [(1, .pointer (some ⟨b1, 0, none⟩)), (3, .int .i64 i)]) (fun i u => i ≤ k.len ∧ Chg w1 u No) (fun i u => k.len - i) 0 ⟨Nat.zero_le _, Chg.refl _ _⟩ ?_ ?_
  · exact ⟨rfl, rfl, trivial⟩
  rintro i u ⟨hi, hC⟩
  have hbu := hb1.no hC
  by_cases hlt : i < k.len
  rotate_left
  · obtain rfl : i = k.len := by omega
    iterate 2 (refine zc_seq ?_)
    refine zc_region ?_
    refine zl_pureL rfl ?_
    refine z_fa want_none (by decide) rfl ?_
    refine z_loadB want_none (by decide) rfl (by assumption) (by rfl) ?_
    refine z_len want_none (by decide) rfl ?_
    refine z_cmpB (r := false) want_none (by decide) rfl rfl rfl (iff_of_false Bool.false_ne_true (by omega)) ?_
    refine zl_nil ?_
    refine zk_seq ?_
    refine zc_false rfl ?_
    refine zc_exit ?_
    iterate 2 (refine zk_exit_then ?_)
    refine zk_exit_block ?_
    refine zk_seq ?_
    refine zc_seq ?_
    refine zc_region ?_
    refine zl_pureL rfl ?_
    refine zl_nil ?_
    refine zk_seq ?_
    refine zc_ret ?_
    exact zk_ret1 (.inr rfl) rfl rfl ⟨⟨false, rfl⟩, hN1.chg.no hC⟩
  obtain ⟨b, o, c', x, k2, r, A', F', K', e1, hv, hN, hAx, hFx, hK2⟩ := ((hK.no hN1.chg).no hC).at_ i hlt
  cases hv
  obtain ⟨AK2, cK2, rfl, hcK2⟩ := hK2.form
  have hsz1 := k.drop_size i
  rw [e1] at hsz1
  simp only [AT.size] at hsz1
  have hls2 := k2.len_size
  iterate 2 (refine zc_seq ?_)
  refine zc_region ?_
  refine zl_pureL rfl ?_
  refine z_fa want_none (by decide) rfl ?_
  refine z_loadB want_none (by decide) rfl (by assumption) (by rfl) ?_
  refine z_len want_none (by decide) rfl ?_
  refine z_cmpB (r := true) want_none (by decide) rfl rfl rfl (iff_of_true rfl (by omega)) ?_
  refine zl_nil ?_
  refine zk_seq ?_
  refine zc_true rfl ?_
  refine zc_skip ?_
  refine zk_seq ?_
  refine zc_seq ?_
  refine zc_block ?_
  refine zc_seq ?_
  refine zc_region ?_
  refine zl_pureL rfl ?_
  refine zl_nil ?_
  refine zk_seq ?_
  refine zc_block ?_
  refine zc_loopW (ι := Nat) (fun j v => [(1, .pointer (some ⟨b1, 0, none⟩)), (3, .int .i64 i), (4, .int .i64 j)]) (fun j v => j ≤ k2.len ∧ Chg u v No) (fun j v => k2.len - j) 0 ⟨Nat.zero_le _, Chg.refl _ _⟩ ?_ ?_
  · exact ⟨rfl, rfl, rfl, trivial⟩
  rintro j v ⟨hj, hCv⟩
  have hbv := hbu.no hCv
  have hNv := hN.no hCv
  have hc4 := hNv.c4
  by_cases hltj : j < k2.len
  rotate_left
  · obtain rfl : j = k2.len := by omega
    iterate 2 (refine zc_seq ?_)
    refine zc_region ?_
    refine zl_pureL rfl ?_
    refine z_fa want_none (by decide) rfl ?_
    refine z_loadB want_none (by decide) rfl (by assumption) (by rfl) ?_
    refine zl_pureL rfl ?_
    refine z_ia want_none (by decide) rfl rfl (by omega) (by omega) ?_
    refine z_fa want_none (by decide) rfl ?_
    refine z_load1 want_none (by decide) rfl (by assumption) ?_
    refine z_len want_none (by decide) rfl ?_
    refine z_cmpB (r := false) want_none (by decide) rfl rfl rfl (iff_of_false Bool.false_ne_true (by omega)) ?_
    refine zl_nil ?_
    refine zk_seq ?_
    refine zc_false rfl ?_
    refine zc_exit ?_
    iterate 2 (refine zk_exit_then ?_)
    refine zk_exit_block ?_
    refine zk_norm_block ?_
    refine zk_seq ?_
    refine zc_region ?_
    refine zl_pureL rfl ?_
    refine z_add want_none (by decide) rfl rfl (by omega) (by omega) ?_
    refine zl_pureL rfl ?_
    refine zl_nil ?_
    exact zk_loopW (i + 1) ⟨by omega, hC.no hCv⟩ (by omega) ⟨rfl, get_int rfl (by simp), trivial⟩
  obtain ⟨b3, o3, c3', x3, k3, r3, A3, F3, K3, e3, hv3, hN3, hAx3, ⟨FA, Fm, Fc, rfl⟩, hK3⟩ := (hK2.no hCv).at_ j hltj
  cases hv3
  obtain ⟨AA3, cA3, rfl, _⟩ := hAx3.form
  obtain ⟨AK3, cK3, rfl, hcK3⟩ := hK3.form
  have hsz3 := k2.drop_size j
  rw [e3] at hsz3
  simp only [AT.size] at hsz3
  have hls3 := k3.len_size
  iterate 2 (refine zc_seq ?_)
  refine zc_region ?_
  refine zl_pureL rfl ?_
  refine z_fa want_none (by decide) rfl ?_
  refine z_loadB want_none (by decide) rfl (by assumption) (by rfl) ?_
  refine zl_pureL rfl ?_
  refine z_ia want_none (by decide) rfl rfl (by omega) (by omega) ?_
  refine z_fa want_none (by decide) rfl ?_
  refine z_load1 want_none (by decide) rfl (by assumption) ?_
  refine z_len want_none (by decide) rfl ?_
  refine z_cmpB (r := true) want_none (by decide) rfl rfl rfl (iff_of_true rfl (by omega)) ?_
  refine zl_nil ?_
  refine zk_seq ?_
  refine zc_true rfl ?_
  refine zc_skip ?_
  refine zk_seq ?_
  refine zc_seq ?_
  refine zc_block ?_
  refine zc_seq ?_
  refine zc_region ?_
  refine z_fa want_none (by decide) rfl ?_
  refine z_loadB want_none (by decide) rfl (by assumption) (by rfl) ?_
  refine zl_pureL rfl ?_
  refine z_ia want_none (by decide) rfl rfl (by omega) (by omega) ?_
  refine z_fa want_none (by decide) rfl ?_
  refine z_load1 want_none (by decide) rfl (by assumption) ?_
  refine zl_pureL rfl ?_
  refine z_ia want_none (by decide) rfl rfl (by omega) (by omega) ?_
  refine z_loadA (by rfl) (by first | exact want_none | exact want_L rfl) (by decide) rfl (hN3.agg (by omega)) ?_
  refine z_alloc (by first | exact want_none | exact want_L rfl) (by decide) (fun v1 b5 hN5 => ?_)
  have hb5 : Blk v1 b5 38 [.string ⟨#[]⟩, nS, .string ⟨#[]⟩, nS, nS] := hN5.blk
  refine z_store (by first | exact want_none | exact want_L rfl) rfl rfl rfl (by assumption) (by first | exact Nat.le_refl _ | simp [Value.cells]) (by simp [Value.cells, Value.oneCell']) (fun v2 hU5 => ?_)
  have hb52 : Blk v2 b5 38 [.string (bs x3.name), .slice AA3 x3.attrs.length cA3, .string (bs x3.text), .slice FA Fm Fc, .slice AK3 k3.len cK3] := hU5.blk
  have hX5 : Chg v v2 No := hN5.chg.upd hU5 (hN5.ge (Chg.refl _ No))
  refine zl_nil ?_
  refine zk_seq ?_
  refine zc_seq ?_
  refine zc_region ?_
  refine zl_pureL rfl ?_
  refine zl_nil ?_
  refine zk_seq ?_
  refine zc_block ?_
  refine zc_loopW (ι := Nat) (fun m z => [(1, .pointer (some ⟨b1, 0, none⟩)), (3, .int .i64 i), (4, .int .i64 j), (5, .pointer (some ⟨b5, 0, none⟩)), (6, .int .i64 m)]) (fun m z => m ≤ k3.len ∧ Chg v2 z No) (fun m z => k3.len - m) 0 ⟨Nat.zero_le _, Chg.refl _ _⟩ ?_ ?_
  · exact ⟨rfl, rfl, rfl, rfl, rfl, trivial⟩
  rintro m z ⟨hm, hCz⟩
  have hb5z := hb52.no hCz
  by_cases hltm : m < k3.len
  rotate_left
  · obtain rfl : m = k3.len := by omega
    iterate 2 (refine zc_seq ?_)
    refine zc_region ?_
    refine zl_pureL rfl ?_
    refine z_fa want_none (by decide) rfl ?_
    refine z_loadB want_none (by decide) rfl (by assumption) (by rfl) ?_
    refine z_len want_none (by decide) rfl ?_
    refine z_cmpB (r := false) want_none (by decide) rfl rfl rfl (iff_of_false Bool.false_ne_true (by omega)) ?_
    refine zl_nil ?_
    refine zk_seq ?_
    refine zc_false rfl ?_
    refine zc_exit ?_
    iterate 2 (refine zk_exit_then ?_)
    refine zk_exit_block ?_
    refine zk_norm_block ?_
    refine zk_seq ?_
    refine zc_region ?_
    refine zl_pureL rfl ?_
    refine z_add want_none (by decide) rfl rfl (by omega) (by omega) ?_
    refine zl_pureL rfl ?_
    refine zl_nil ?_
    exact zk_loopW (j + 1) ⟨by omega, (hCv.no hX5).no hCz⟩ (by omega) ⟨rfl, rfl, get_int rfl (by simp), trivial⟩
  obtain ⟨b7, o7, c7, x7, k7, r7, A7, F7, K7, e7, hv7, hN7, _⟩ := ((hK3.no hX5).no hCz).at_ m hltm
  cases hv7
  have hc70 := hN7.c0
  iterate 2 (refine zc_seq ?_)
  refine zc_region ?_
  refine zl_pureL rfl ?_
  refine z_fa want_none (by decide) rfl ?_
  refine z_loadB want_none (by decide) rfl (by assumption) (by rfl) ?_
  refine z_len want_none (by decide) rfl ?_
  refine z_cmpB (r := true) want_none (by decide) rfl rfl rfl (iff_of_true rfl (by omega)) ?_
  refine zl_nil ?_
  refine zk_seq ?_
  refine zc_true rfl ?_
  refine zc_skip ?_
  refine zk_seq ?_
  refine zc_seq ?_
  refine zc_block ?_
  refine zc_seq ?_
  refine zc_region ?_
  refine z_fa want_none (by decide) rfl ?_
  refine z_loadB want_none (by decide) rfl (by assumption) (by rfl) ?_
  refine zl_pureL rfl ?_
  refine z_ia want_none (by decide) rfl rfl (by omega) (by omega) ?_
  refine z_fa want_none (by decide) rfl ?_
  refine z_load1 want_none (by decide) rfl (by assumption) ?_
  refine z_eqL (r := [116, 104]) (by first | exact want_none | exact want_L rfl) (by decide) rfl rfl (fun hc => ?_) (fun hc => ?_)
  · refine zl_nil ?_
    refine zk_seq ?_
    refine zc_true rfl ?_
    refine zc_seq ?_
    refine zc_region ?_
    refine zl_pureL rfl ?_
    refine zl_nil ?_
    refine zk_seq ?_
    refine zc_ret ?_
    refine zk_ret_block ?_
    iterate 2 (refine zk_ret_then ?_)
    iterate 2 (refine zk_ret_block ?_)
    iterate 2 (refine zk_ret_then ?_)
    iterate 2 (refine zk_ret_block ?_)
    iterate 2 (refine zk_ret_then ?_)
    refine zk_ret_block ?_
    refine zk_ret_then ?_
    exact zk_ret1 (.inr rfl) rfl rfl ⟨⟨true, rfl⟩, ((hN1.chg.no hC).no hCv).no (hX5.no hCz)⟩
  · refine zl_nil ?_
    refine zk_seq ?_
    refine zc_false rfl ?_
    refine zc_skip ?_
    refine zk_norm_block ?_
    refine zk_seq ?_
    refine zc_region ?_
    refine zl_pureL rfl ?_
    refine z_add want_none (by decide) rfl rfl (by omega) (by omega) ?_
    refine zl_pureL rfl ?_
    refine zl_nil ?_
    exact zk_loopW (m + 1) ⟨by omega, hCz⟩ (by omega) ⟨rfl, rfl, rfl, rfl, get_int rfl (by simp), trivial⟩
end Go.Proofs.Ytbcmiijollpgeaa.T
