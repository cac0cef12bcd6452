import Derived.Test.YtjiehalanklapaaRTake
/- The document's Doc: Move, New. -/
namespace Go.Proofs.Ytjiehalanklapaa.D
open Go Go.Z Go.Proofs
set_option linter.unusedVariables false
section
variable {w : World} {p : Nat} {vn vu vr va : Value} {ms : List MN} {ks : List Value} {N : List ND}
set_option maxRecDepth 100000 in
set_option maxHeartbeats 8000000 in
theorem rMove_calls (h : IsR w p vn vu vr ms ks N) (hW : WF N) (hl : N.length ≤ 100000) (x y : Int) :
    Calls Try.prog 60 [.pointer (some ⟨p, 0, none⟩), .int .i64 x, .int .i64 y].toArray w fun e w' => ∃ q ks' N', e = .returned (.bool q) ∧ IsR w' p vn vu vr ms ks' N' ∧ WrR w w' p vn vu vr ks vn vu vr ks' ∧ MoveR N x y q N' := by
  have bad : ¬ MoveOk N x y → ∃ q ks' N', (Ending.returned (.bool false)) = .returned (.bool q) ∧ IsR w p vn vu vr ms ks' N' ∧ WrR w w p vn vu vr ks vn vu vr ks' ∧ MoveR N x y q N' := fun hn => ⟨false, ks, N, rfl, h, WrR.refl _ _ _ _ _ _, fun hh => absurd hh hn, fun _ => ⟨rfl, rfl⟩⟩
  refine calls_zc (n := 88) (f := 60) (fn := Try.f60) Try.func60 rfl rfl (by simp) ?_
  refine zc_seq ?_
  refine zc_region ?_
  refine zl_pureL rfl ?_
  refine zl_nil ?_
  refine zk_seq ?_
  iterate 2 (refine zc_seq ?_)
  refine zc_region ?_
  iterate 2 (refine zl_pureL rfl ?_)
  refine zl_call (by first | exact want_none | exact want_L rfl) rfl (by decide) rfl (rElem_calls h x) ?_
  rintro _ u ⟨rfl, hu⟩
  obtain rfl := hu.symm
  refine ⟨_, rfl, ?_⟩
  by_cases h1 : isN N x ∧ (ndOf N x).kind = 1
  rotate_left
  · rw [decide_eq_false h1]
    iterate 4 (refine zl_pureL rfl ?_)
    refine zl_skip rfl ?_
    iterate 5 (refine zl_pureL rfl ?_)
    refine zl_skip rfl ?_
    iterate 5 (refine zl_pureL rfl ?_)
    refine zl_skip rfl ?_
    refine zl_pureL rfl ?_
    refine zl_nil ?_
    refine zk_seq ?_
    refine zc_true rfl ?_
    refine zc_seq ?_
    refine zc_region ?_
    refine zl_pureL rfl ?_
    refine zl_nil ?_
    refine zk_seq ?_
    refine zc_ret ?_
    refine zk_ret_then ?_
    exact zk_ret1 (.inr rfl) rfl rfl (bad (fun hh => h1 hh.1))
  rw [decide_eq_true h1]
  iterate 4 (refine zl_pureL rfl ?_)
  refine zl_call (by first | exact want_none | exact want_L rfl) rfl (by decide) rfl (rElem_calls h y) ?_
  rintro _ u ⟨rfl, hu⟩
  obtain rfl := hu.symm
  refine ⟨_, rfl, ?_⟩
  by_cases h2 : isN N y ∧ (ndOf N y).kind = 1
  rotate_left
  · rw [decide_eq_false h2]
    iterate 5 (refine zl_pureL rfl ?_)
    refine zl_skip rfl ?_
    iterate 5 (refine zl_pureL rfl ?_)
    refine zl_skip rfl ?_
    refine zl_pureL rfl ?_
    refine zl_nil ?_
    refine zk_seq ?_
    refine zc_true rfl ?_
    refine zc_seq ?_
    refine zc_region ?_
    refine zl_pureL rfl ?_
    refine zl_nil ?_
    refine zk_seq ?_
    refine zc_ret ?_
    refine zk_ret_then ?_
    exact zk_ret1 (.inr rfl) rfl rfl (bad (fun hh => h2 hh.2.1))
  rw [decide_eq_true h2]
  obtain ⟨i, rfl⟩ := Int.eq_ofNat_of_zero_le h1.1.1
  have hi : i < N.length := by have := h1.1.2; omega
  obtain ⟨j, rfl⟩ := Int.eq_ofNat_of_zero_le h2.1.1
  have hj : j < N.length := by have := h2.1.2; omega
  by_cases hij : i = j
  · subst hij
    iterate 5 (refine zl_pureL rfl ?_)
    refine z_cmpB (r := true) (want_L rfl) (by decide) rfl rfl rfl (iff_of_true rfl (by omega)) ?_
    iterate 5 (refine zl_pureL rfl ?_)
    refine zl_skip rfl ?_
    refine zl_pureL rfl ?_
    refine zl_nil ?_
    refine zk_seq ?_
    refine zc_true rfl ?_
    refine zc_seq ?_
    refine zc_region ?_
    refine zl_pureL rfl ?_
    refine zl_nil ?_
    refine zk_seq ?_
    refine zc_ret ?_
    refine zk_ret_then ?_
    exact zk_ret1 (.inr rfl) rfl rfl (bad (fun hh => hh.2.2 (Anc.refl i)))
  iterate 5 (refine zl_pureL rfl ?_)
  refine z_cmpB (r := false) (want_L rfl) (by decide) rfl rfl rfl (iff_of_false Bool.false_ne_true (by omega)) ?_
  iterate 5 (refine zl_pureL rfl ?_)
  refine zl_call (by first | exact want_none | exact want_L rfl) rfl (by decide) rfl (rBelow_calls h hW j i hj hi) ?_
  rintro _ u ⟨q1, rfl, hq1, hu⟩
  obtain rfl := hu.symm
  refine ⟨_, rfl, ?_⟩
  cases q1
  rotate_left
  · refine zl_pureL rfl ?_
    refine zl_nil ?_
    refine zk_seq ?_
    refine zc_true rfl ?_
    refine zc_seq ?_
    refine zc_region ?_
    refine zl_pureL rfl ?_
    refine zl_nil ?_
    refine zk_seq ?_
    refine zc_ret ?_
    refine zk_ret_then ?_
    exact zk_ret1 (.inr rfl) rfl rfl (bad (fun hh => hh.2.2 (hq1.1 rfl)))
  have hna : ¬ Anc N j i := fun ha => absurd (hq1.2 ha) Bool.false_ne_true
  have hki := hW.kids_len hi
  have hkj := hW.kids_len hj
  have hlt : ∀ k ∈ (N.getD i n0).kids, k < N.length := fun k hk => ((hW.kid i k hi).1 hk).1
  refine zl_pureL rfl ?_
  refine zl_nil ?_
  refine zk_seq ?_
  refine zc_false rfl ?_
  refine zc_skip ?_
  refine zk_seq ?_
  iterate 2 (refine zc_seq ?_)
  refine zc_region ?_
  refine zl_pureL rfl ?_
  refine zl_nil ?_
  refine zk_seq ?_
  refine zc_block ?_
  refine zc_loopW (ι := Nat) (fun k u => [(0, .pointer (some ⟨p, 0, none⟩)), (1, .int .i64 i), (2, .int .i64 j), (7, .int .i64 k)])
    (fun k u => k ≤ (N.getD i n0).kids.length ∧ IsR u p vn vu vr ms ks (upsN N ((N.getD i n0).kids.take k) j) ∧ WrR w u p vn vu vr ks vn vu vr ks) (fun k u => (N.getD i n0).kids.length - k) 0 ⟨Nat.zero_le _, h, WrR.refl _ _ _ _ _ _⟩ ?_ ?_
  · exact ⟨rfl, rfl, rfl, rfl, trivial⟩
  rintro k u ⟨hk, hu, hWu⟩
  have hlt' : ∀ x ∈ (N.getD i n0).kids.take k, x < N.length := fun x hx => hlt x (List.mem_of_mem_take hx)
  have hNl := upsN_len ((N.getD i n0).kids.take k) N j
  have eki : ((upsN N ((N.getD i n0).kids.take k) j).getD i n0).kids = (N.getD i n0).kids := upsN_kids _ _ _ _ hlt'
  have ekj : ((upsN N ((N.getD i n0).kids.take k) j).getD j n0).kids = (N.getD j n0).kids := upsN_kids _ _ _ _ hlt'
  obtain ⟨br, or', cr, Ai, ci, hvr, hcr, hks, hci⟩ := hu.kd i (by omega)
  have hK := (hu.kid i (by omega)).1
  rw [hks, eki] at hK
  rw [eki] at hcr hci
  rw [hNl] at hvr
  have hb := hu.blk
  rw [hvr] at hb
  by_cases hlk : k < (N.getD i n0).kids.length
  · obtain ⟨bk, ok, ck, hvk, _, hck⟩ := RdS.some hK.rd (by omega)
    cases hvk
    have hcell := hck k _ (intC_get _ k hlk)
    have hnk : (N.getD i n0).kids.getD k 0 < N.length := hlt _ (getD_mem hlk)
    obtain ⟨nk, hnke⟩ : ∃ nk, nk = (N.getD i n0).kids.getD k 0 := ⟨_, rfl⟩
    rw [← hnke] at hcell hnk
    obtain ⟨bu, cu, cellsu, hvu, _, hBu, hfitu, hstu⟩ := hu.upset nk (by omega)
    rw [hNl] at hvu
    rw [hvu] at hb
    iterate 2 (refine zc_seq ?_)
    refine zc_region ?_
    iterate 3 (refine zl_pureL rfl ?_)
    refine z_fa want_none (by decide) rfl ?_
    refine z_loadB want_none (by decide) rfl (by assumption) (by rfl) ?_
    refine zl_pureL rfl ?_
    refine z_ia want_none (by decide) rfl rfl (by omega) (by omega) ?_
    refine z_load1 (by first | exact want_none | exact want_L rfl) (by decide) rfl (cell_at hcr (by omega)) ?_
    refine z_len want_none (by decide) rfl ?_
    refine z_cmpB (r := true) want_none (by decide) rfl rfl rfl (iff_of_true rfl (by omega)) ?_
    refine zl_nil ?_
    refine zk_seq ?_
    refine zc_true rfl ?_
    refine zc_skip ?_
    refine zk_seq ?_
    refine zc_seq ?_
    refine zc_block ?_
    refine zc_seq ?_
    refine zc_region ?_
    iterate 2 (refine zl_pureL rfl ?_)
    refine z_fa want_none (by decide) rfl ?_
    refine z_loadB want_none (by decide) rfl (by assumption) (by rfl) ?_
    refine zl_pureL rfl ?_
    refine z_ia want_none (by decide) rfl rfl (by omega) (by omega) ?_
    refine z_load1 (by first | exact want_none | exact want_L rfl) (by decide) rfl (cell_at hcr (by omega)) ?_
    refine zl_pureL rfl ?_
    refine z_ia want_none (by decide) rfl rfl (by omega) (by omega) ?_
    refine z_load1 (by first | exact want_none | exact want_L rfl) (by decide) rfl (cell_at hcell (by omega)) ?_
    refine zl_pureL rfl ?_
    refine zl_nil ?_
    refine zk_seq ?_
    refine zc_region ?_
    iterate 2 (refine zl_pureL rfl ?_)
    refine z_fa want_none (by decide) rfl ?_
    refine z_loadB want_none (by decide) rfl (by assumption) (by rfl) ?_
    iterate 2 (refine zl_pureL rfl ?_)
    refine z_ia want_none (by decide) rfl rfl (by omega) (by omega) ?_
    refine z_store (o := nk) (by first | exact want_none | exact want_L rfl) (ev_ptr rfl (by omega)) rfl rfl hBu hfitu (by simp [Value.cells, Value.oneCell']) (fun u7 hU7 => ?_)
    obtain ⟨k1, k2, k3⟩ := hstu _ u7 hU7
    have e7 : upsN N ((N.getD i n0).kids.take (k + 1)) j = (upsN N ((N.getD i n0).kids.take k) j).set nk { (upsN N ((N.getD i n0).kids.take k) j).getD nk n0 with up := j } := by
      rw [take_getD 0 hlk, upsN_snoc, ← hnke]
    refine zl_nil ?_
    refine zk_norm_block ?_
    refine zk_seq ?_
    refine zc_region ?_
    refine zl_pureL rfl ?_
    refine z_add want_none (by decide) rfl rfl (by omega) (by omega) ?_
    refine zl_pureL rfl ?_
    refine zl_nil ?_
    exact zk_loopW (k + 1) ⟨hlk, by rw [e7]; exact k1, hWu.trans ⟨k2, fun _ h => .inl h, k3⟩⟩ (by show _ - (k + 1) < _ - k; omega) ⟨rfl, rfl, rfl, get_int rfl (by omega), trivial⟩
  obtain rfl : k = (N.getD i n0).kids.length := by omega
  rw [List.take_length] at hu hNl eki ekj
  obtain ⟨M, hM⟩ : ∃ M, M = upsN N (N.getD i n0).kids j := ⟨_, rfl⟩
  rw [← hM] at hu hNl eki ekj
  obtain ⟨br2, or2, cr2, Aj, cj, hvr2, hcj, hksj, hcj2⟩ := hu.kd j (by omega)
  have hKj := (hu.kid j (by omega)).1
  rw [hksj, ekj] at hKj
  rw [ekj] at hcj hcj2
  rw [hvr, hNl] at hvr2
  cases hvr2
  obtain ⟨br0, cr0, cells0, hvr0, _⟩ := hu.row j (by omega)
  rw [hvr, hNl] at hvr0
  cases hvr0
  subst hvr
  have hszu := hWu.chg.size
  iterate 2 (refine zc_seq ?_)
  refine zc_region ?_
  iterate 3 (refine zl_pureL rfl ?_)
  refine z_fa want_none (by decide) rfl ?_
  refine z_loadB want_none (by decide) rfl (by assumption) (by rfl) ?_
  refine zl_pureL rfl ?_
  refine z_ia want_none (by decide) rfl rfl (by omega) (by omega) ?_
  refine z_load1 (by first | exact want_none | exact want_L rfl) (by decide) rfl (cell_at hcr (by omega)) ?_
  refine z_len want_none (by decide) rfl ?_
  refine z_cmpB (r := false) want_none (by decide) rfl rfl rfl (iff_of_false Bool.false_ne_true (by omega)) ?_
  refine zl_nil ?_
  refine zk_seq ?_
  refine zc_false rfl ?_
  refine zc_exit ?_
  iterate 2 (refine zk_exit_then ?_)
  refine zk_exit_block ?_
  refine zk_seq ?_
  refine zc_seq ?_
  refine zc_draw [23] (fun w' => Chg u w' No ∧ Blk w' p 63 [vn, vu, .slice (some ⟨br, 0, none⟩) N.length cr]) (.take 0 (.take 1 (.take 2 (.take 3 (.take 4 (.take 6 (.take 7 (.take 8 (.take 9 (.take 10 (.take 11 (.take 12 (.take 14 (.take 15 (.take 16 (.take 17 (.take 18 (.take 19 (.take 20 (.all1 5 (.all1 13 (.all1 21 (.take 22 (.last 23)))))))))))))))))))))))) (by rfl) (by kernel_rfl) (by kernel_rfl) (fun w1 hCw1 _ => ⟨?_, ?_⟩)
  · exact ⟨hCw1, hb.no hCw1⟩
  iterate 2 (refine zs_take rfl (zt_pure rfl ?_))
  refine zs_rdL rfl want_none rfl (by decide) (fun _ hS => r_fa rfl) ?_
  refine zs_rdL rfl want_none rfl (by decide) (fun _ hS => r_loadB rfl hS.2 (by rfl)) ?_
  iterate 3 (refine zs_take rfl (zt_pure rfl ?_))
  refine zs_rdL rfl want_none rfl (by decide) (fun _ hS => r_fa rfl) ?_
  refine zs_rdL rfl want_none rfl (by decide) (fun _ hS => r_loadB rfl hS.2 (by rfl)) ?_
  refine zs_take rfl (zt_pure rfl ?_)
  refine zs_rdL rfl want_none rfl (by decide) (fun _ hS => r_ia rfl rfl (by omega) (by omega)) ?_
  refine zs_rdL rfl (by first | exact want_none | exact want_L rfl) rfl (by decide) (fun _ hS => r_load1 rfl (cell_at (cell_no hS.1 hcj) (by omega))) ?_
  iterate 2 (refine zs_take rfl (zt_pure rfl ?_))
  refine zs_rdL rfl want_none rfl (by decide) (fun _ hS => r_fa rfl) ?_
  refine zs_rdL rfl want_none rfl (by decide) (fun _ hS => r_loadB rfl hS.2 (by rfl)) ?_
  refine zs_take rfl (zt_pure rfl ?_)
  refine zs_rdL rfl want_none rfl (by decide) (fun _ hS => r_ia rfl rfl (by omega) (by omega)) ?_
  refine zs_rdL rfl (by first | exact want_none | exact want_L rfl) rfl (by decide) (fun _ hS => r_load1 rfl (cell_at (cell_no hS.1 hcr) (by omega))) ?_
  skip
  refine zs_bs0 rfl (by first | exact want_none | exact want_L rfl) (by decide) (fun w2 ca hM2 => ?_)
  have hCw2 : Chg u w2 No := hCw1.no hM2.chg
  refine ⟨⟨hCw2, hb.no hCw2⟩, ?_⟩
  have hF : FO u.heap.size w2 (.slice (some ⟨ca, 0, none⟩) 0 0) 0 [] := ⟨Own.empty hM2, fun k hk => by simp only [Value.ownBlock, Option.some.injEq] at hk; have := hM2.at_; have := hCw1.size; omega⟩
  refine zs_appendO rfl (by rfl) (by decide) (by first | exact want_none | exact want_L rfl) (by decide) rfl rfl hF.1 (hKj.rd.no hCw2) (by omega) (by omega) (fun v3 w3 hO3 hX3 hr3 => ?_)
  have hCw3 : Chg u w3 No := hF.ch hCw2 hX3
  refine ⟨⟨hCw3, hb.no hCw3⟩, ?_⟩
  have hF := hF.grow hCw2.size hO3 hr3
  obtain ⟨A3, c3, hv3, _⟩ := hF.1.rd.form
  subst hv3
  refine zs_appendO rfl (by rfl) (by decide) (by first | exact want_none | exact want_L rfl) (by decide) rfl rfl hF.1 (hK.rd.no hCw3) (by omega) (by omega) (fun v4 w4 hO4 hX4 hr4 => ?_)
  have hCw4 : Chg u w4 No := hF.ch hCw3 hX4
  refine ⟨⟨hCw4, hb.no hCw4⟩, ?_⟩
  have hF := hF.grow hCw3.size hO4 hr4
  obtain ⟨A4, c4, hv4, _⟩ := hF.1.rd.form
  subst hv4
  refine zs_rdL rfl want_none rfl (by decide) (fun _ hS => r_ia rfl rfl (by omega) (by omega)) ?_
  have hO : Own w4 3 1 (.slice A4 (0 + (N.getD j n0).kids.length + (N.getD i n0).kids.length) c4) ((N.getD j n0).kids ++ (N.getD i n0).kids).length (intC ((N.getD j n0).kids ++ (N.getD i n0).kids)) := by
    have hlen : ((N.getD j n0).kids ++ (N.getD i n0).kids).length = 0 + (N.getD j n0).kids.length + (N.getD i n0).kids.length := by rw [List.length_append]; omega
    rw [hlen, intC_app]
    exact hF.1
  obtain ⟨bo6, co6, cells6, hv6, _, hB6, hfit6, hst6⟩ := (hu.no hCw4).row j (by omega)
  rw [hNl] at hv6
  cases hv6
  refine zs_storeL (o := j) rfl (by first | exact want_none | exact want_L rfl) (ev_ptr rfl (by omega)) rfl rfl hB6 hfit6 (by simp [Value.cells, Value.oneCell']) (fun w7 hU7 => ?_)
  obtain ⟨g1, g2, g3, g4⟩ := hst6 _ _ hO (fun k hk he => by have := hF.2 k hk; have := hu.ups.lt he; omega) w7 hU7
  obtain ⟨bu, cu, cellsu, hvu, _, hBu, hfitu, hstu⟩ := g1.row i (by rw [List.length_set]; omega)
  rw [List.length_set, hNl] at hvu
  have hb7 := g1.blk
  cases hvu
  refine zk_seq ?_
  refine zc_seq ?_
  refine zc_region ?_
  iterate 2 (refine zl_pureL rfl ?_)
  refine z_fa want_none (by decide) rfl ?_
  refine z_loadB want_none (by decide) rfl (by assumption) (by rfl) ?_
  refine zl_pureL rfl ?_
  refine z_ia want_none (by decide) rfl rfl (by omega) (by omega) ?_
  refine z_store (o := i) (by first | exact want_none | exact want_L rfl) (ev_ptr rfl (by omega)) rfl rfl hBu hfitu (by simp [Value.cells, Value.oneCell']) (fun w8 hU8 => ?_)
  obtain ⟨k1, k2, k3, k4⟩ := hstu (.slice none 0 0) [] Own.nil (fun k hk => by cases hk) w8 hU8
  refine zl_nil ?_
  refine zk_seq ?_
  refine zc_seq ?_
  refine zc_region ?_
  refine zl_pureL rfl ?_
  refine zl_nil ?_
  refine zk_seq ?_
  refine zc_ret ?_
  refine zk_ret1 (.inr rfl) rfl rfl ⟨true, _, _, rfl, k1, hWu.trans ⟨?_, ?_, fun b cells hb' => k4 b cells (g4 b cells (hb'.no hCw4))⟩, fun _ => ⟨rfl, ?_⟩, fun hh => absurd ⟨h1, h2, hna⟩ hh⟩
  · exact ((hCw4.mono (fun _ _ h => h.elim)).trans g2 (fun _ _ h => h)).trans k2 (fun k hk hf => (g3 k hf).elim id (fun h' => by have := hF.2 k h'; omega))
  · intro k hk
    rcases k3 k hk with h' | h'
    · exact (g3 k h').imp id (fun h' => hF.2 k h')
    · cases h'
  · show _ = moveN N i j
    unfold moveN
    rw [← hM, getD_set _ _ _ _ _ (by omega), if_neg hij]
end
end Go.Proofs.Ytjiehalanklapaa.D
