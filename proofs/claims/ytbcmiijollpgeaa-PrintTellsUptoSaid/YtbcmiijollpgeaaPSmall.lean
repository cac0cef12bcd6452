import Derived.Test.YtbcmiijollpgeaaPRef2
/- Arts that are not too many: some answer. -/
namespace Go.Proofs.Ytbcmiijollpgeaa.T
open Go Go.Z Go.Proofs
set_option linter.unusedVariables false
set_option maxHeartbeats 8000000 in
theorem small_calls : ∀ (f : Nat) {w0 w : World} {v : Value} (t : AT) {bl : Nat} {L lv : Int}, t.size ≤ f → TreeAt false w0 v t → Chg w0 w No → w0.heap.size ≤ bl → Blk w bl 3 [.int .i64 L] → 0 ≤ L → L ≤ 300 → 0 ≤ lv → lv ≤ 61 → t.wt ≤ big →
    Calls Try.prog 29 [v, .int .i64 lv, .pointer (some ⟨bl, 0, none⟩)].toArray w fun e w' => (∃ q : Bool, e = .returned (.bool q) ∧ ∃ L' : Int, Blk w' bl 3 [.int .i64 L'] ∧ (q = true → 0 ≤ L' ∧ L' ≤ 300)) ∧ Chg w w' (· = bl) := by
  intro f
  have hbig : big = 1000000000000 := rfl
  induction f with
  | zero =>
    intro w0 w v t bl L lv hs h hC hbl hb hL0 hL1 hv0 hv1 hl
    cases t with
    | cons x k r => simp [AT.size] at hs
    | nil =>
      obtain ⟨A, c, rfl, hc⟩ := h.form
      refine calls_zc (n := 55) (f := 29) (fn := Try.f29) Try.func29 rfl rfl (by simp) ?_
      refine zc_seq ?_
      refine zc_region ?_
      refine zl_pureL rfl ?_
      refine zl_nil ?_
      refine zk_seq ?_
      iterate 2 (refine zc_seq ?_)
      refine zc_region ?_
      refine zl_pureL rfl ?_
      refine zl_nil ?_
      refine zk_seq ?_
      refine zc_block ?_
      refine zc_loopW (ι := Nat) (fun i u => [(0, .slice A 0 c), (7, .int .i64 0)]) (fun i u => u = w) (fun i u => 0) 0 rfl ?_ ?_
      · exact ⟨rfl, rfl, trivial⟩
      rintro i u rfl
      iterate 2 (refine zc_seq ?_)
      refine zc_region ?_
      iterate 2 (refine zl_pureL rfl ?_)
      refine z_len want_none (by decide) rfl ?_
      refine z_cmpB (r := false) want_none (by decide) rfl rfl rfl (iff_of_false Bool.false_ne_true (by omega)) ?_
      refine zl_nil ?_
      refine zk_seq ?_
      refine zc_false rfl ?_
      refine zc_exit ?_
      iterate 2 (refine zk_exit_then ?_)
      refine zk_exit_block ?_
      refine zk_seq ?_
      refine zc_seq ?_
      refine zc_region ?_
      refine zl_pureL rfl ?_
      refine zl_nil ?_
      refine zk_seq ?_
      refine zc_ret ?_
      exact zk_ret1 (.inr rfl) rfl rfl ⟨⟨true, rfl, L, hb, fun _ => ⟨hL0, hL1⟩⟩, Chg.refl _ _⟩
  | succ f ih =>
    intro w0 w v t bl L0 lv hs h hC hbl hb0 hL00 hL01 hv0 hv1 hl
    obtain ⟨A, c, hv, hc⟩ := h.form
    have hlw := len_wt t
    subst hv
    rw [hbig] at hl
    refine calls_zc (n := 55) (f := 29) (fn := Try.f29) Try.func29 rfl rfl (by simp) ?_
    refine zc_seq ?_
    refine zc_region ?_
    refine zl_pureL rfl ?_
    refine zl_nil ?_
    refine zk_seq ?_
    iterate 2 (refine zc_seq ?_)
    refine zc_region ?_
    refine zl_pureL rfl ?_
    refine zl_nil ?_
    refine zk_seq ?_
    refine zc_block ?_
    refine zc_loopW (ι := Nat × Int) (fun q u => [(0, .slice A t.len c), (1, .int .i64 lv), (2, .pointer (some ⟨bl, 0, none⟩)), (7, .int .i64 q.1)])
      (fun q u => q.1 ≤ t.len ∧ Blk u bl 3 [.int .i64 q.2] ∧ 0 ≤ q.2 ∧ q.2 ≤ 300 ∧ Chg w u (· = bl) ∧ Chg w0 u No) (fun q u => t.len - q.1) (0, L0) ⟨Nat.zero_le _, hb0, hL00, hL01, Chg.refl _ _, hC⟩ ?_ ?_
    · exact ⟨rfl, rfl, rfl, rfl, trivial⟩
    rintro ⟨i, L⟩ u ⟨hi, hb, hL0, hL1, hCw, hCu⟩
    dsimp only at hi hb hL0 hL1 hCw hCu ⊢
    by_cases hlt : i < t.len
    rotate_left
    · obtain rfl : i = t.len := by omega
      iterate 2 (refine zc_seq ?_)
      refine zc_region ?_
      iterate 2 (refine zl_pureL rfl ?_)
      refine z_len want_none (by decide) rfl ?_
      refine z_cmpB (r := false) want_none (by decide) rfl rfl rfl (iff_of_false Bool.false_ne_true (by omega)) ?_
      refine zl_nil ?_
      refine zk_seq ?_
      refine zc_false rfl ?_
      refine zc_exit ?_
      iterate 2 (refine zk_exit_then ?_)
      refine zk_exit_block ?_
      refine zk_seq ?_
      refine zc_seq ?_
      refine zc_region ?_
      refine zl_pureL rfl ?_
      refine zl_nil ?_
      refine zk_seq ?_
      refine zc_ret ?_
      exact zk_ret1 (.inr rfl) rfl rfl ⟨⟨true, rfl, L, hb, fun _ => ⟨hL0, hL1⟩⟩, hCw⟩
    obtain ⟨b', o, c', x, k, r, A', F, K, e1, hv, hN, hA, hF, hK⟩ := h.at_ i hlt
    cases hv
    have hNu := hN.no hCu
    have hsz := t.drop_size i
    have hwd := t.drop_text i
    rw [e1] at hsz hwd
    simp only [AT.size, AT.wt] at hsz hwd
    have hac := attrs_cnt x.attrs
    obtain ⟨A2, c2, rfl, _⟩ := hA.form
    obtain ⟨A4, c4, rfl, _⟩ := hK.form
    iterate 2 (refine zc_seq ?_)
    refine zc_region ?_
    iterate 2 (refine zl_pureL rfl ?_)
    refine z_len want_none (by decide) rfl ?_
    refine z_cmpB (r := true) want_none (by decide) rfl rfl rfl (iff_of_true rfl (by omega)) ?_
    refine zl_nil ?_
    refine zk_seq ?_
    refine zc_true rfl ?_
    refine zc_skip ?_
    refine zk_seq ?_
    refine zc_seq ?_
    refine zc_block ?_
    refine zc_seq ?_
    refine zc_draw [21] (fun w' => Chg u w' No ∧ Blk w' bl 3 [.int .i64 L]) (.take 0 (.take 1 (.take 2 (.take 3 (.take 4 (.take 5 (.take 6 (.take 7 (.take 8 (.take 9 (.take 10 (.take 11 (.take 12 (.take 13 (.take 14 (.take 15 (.take 16 (.take 17 (.take 18 (.take 19 (.take 20 (.last 21)))))))))))))))))))))) (by rfl) (by kernel_rfl) (by kernel_rfl) (fun z1 hZ1 _ => ⟨?_, ?_⟩)
    · exact ⟨hZ1, hb.no hZ1⟩
    have hbz := hb.no hZ1
    iterate 3 (refine zs_take rfl (zt_pure rfl ?_))
    refine zs_rdL rfl want_none rfl (by decide) (fun _ hS => r_loadB rfl hS.2 (by rfl)) ?_
    refine zs_rdL rfl want_none rfl (by decide) (fun _ hS => r_sub rfl rfl (by omega) (by omega)) ?_
    iterate 2 (refine zs_take rfl (zt_pure rfl ?_))
    refine zs_rdL rfl want_none rfl (by decide) (fun _ hS => r_ia rfl rfl (by omega) (by omega)) ?_
    refine zs_rdL rfl want_none rfl (by decide) (fun _ hS => r_fa rfl) ?_
    refine zs_rdL rfl (by first | exact want_none | exact want_L rfl) rfl (by decide) (fun _ hS => r_load1 rfl (cell_at (cell_keep hS.1 hNu.c1) (by omega))) ?_
    refine zs_rdL rfl want_none rfl (by decide) (fun _ hS => r_len rfl) ?_
    refine zs_rdL rfl want_none rfl (by decide) (fun _ hS => r_sub rfl rfl (by omega) (by omega)) ?_
    iterate 2 (refine zs_take rfl (zt_pure rfl ?_))
    refine zs_rdL rfl want_none rfl (by decide) (fun _ hS => r_ia rfl rfl (by omega) (by omega)) ?_
    refine zs_rdL rfl want_none rfl (by decide) (fun _ hS => r_fa rfl) ?_
    refine zs_rdL rfl (by first | exact want_none | exact want_L rfl) rfl (by decide) (fun _ hS => r_load1 rfl (cell_at (cell_keep hS.1 hNu.c2) (by omega))) ?_
    refine zs_rdL rfl want_none rfl (by decide) (fun _ hS => r_lenL rfl) ?_
    refine zs_rdL rfl (by first | exact want_none | exact want_L rfl) rfl (by decide) (fun _ hS => r_quo rfl rfl (by decide)) ?_
    have hquo : IntKind.i64.wrap ((x.text.length : Int).tdiv 8) = ((x.text.length / 8 : Nat) : Int) := by
      rw [Int.tdiv_eq_ediv_of_nonneg (by omega), wrap_i64 (by omega) (by omega)]; omega
    rw [hquo]
    refine zs_rdL rfl want_none rfl (by decide) (fun _ hS => r_sub rfl rfl (by omega) (by omega)) ?_
    refine zs_take rfl (zt_pure rfl ?_)
    refine zs_storeL rfl (by first | exact want_none | exact want_L rfl) rfl rfl rfl (by assumption) (by first | exact Nat.le_refl _ | simp [Value.cells]) (by simp [Value.cells, Value.oneCell']) (fun z2 hU2 => ?_)
    generalize hL2 : L - 1 - (x.attrs.length : Int) - ((x.text.length / 8 : Nat) : Int) = L2 at hU2
    have hb2 : Blk z2 bl 3 [.int .i64 L2] := hU2.blk
    have hCw2 : Chg w z2 (· = bl) := (hCw.no hZ1).trans hU2.chg (fun _ _ h => h)
    have hCu2 : Chg w0 z2 No := (hCu.no hZ1).trans hU2.chg (fun k hk he => by omega)
    refine zk_seq ?_
    refine zc_seq ?_
    refine zc_region ?_
    iterate 2 (refine zl_pureL rfl ?_)
    refine z_loadB want_none (by decide) rfl (by assumption) (by rfl) ?_
    by_cases hneg : L2 < 0
    · refine z_cmpB (r := true) want_none (by decide) rfl rfl rfl (iff_of_true rfl (by omega)) ?_
      iterate 2 (refine zl_pureL rfl ?_)
      refine zl_skip rfl ?_
      iterate 4 (refine zl_pureL rfl ?_)
      iterate 3 (refine zl_skip rfl ?_)
      refine zl_pureL rfl ?_
      refine zl_skip rfl ?_
      refine zl_pureL rfl ?_
      refine zl_skip rfl ?_
      iterate 2 (refine zl_pureL rfl ?_)
      refine zl_nil ?_
      refine zk_seq ?_
      refine zc_true rfl ?_
      refine zc_seq ?_
      refine zc_region ?_
      refine zl_pureL rfl ?_
      refine zl_nil ?_
      refine zk_seq ?_
      refine zc_ret ?_
      refine zk_ret_block ?_
      iterate 2 (refine zk_ret_then ?_)
      refine zk_ret_block ?_
      refine zk_ret_then ?_
      exact zk_ret1 (.inr rfl) rfl rfl ⟨⟨false, rfl, L2, hb2, fun h => by cases h⟩, hCw2⟩
    by_cases hlv : 60 < lv
    · refine z_cmpB (r := false) want_none (by decide) rfl rfl rfl (iff_of_false Bool.false_ne_true (by omega)) ?_
      iterate 2 (refine zl_pureL rfl ?_)
      refine z_cmpB (r := true) (want_L rfl) (by decide) rfl rfl rfl (iff_of_true rfl (by omega)) ?_
      iterate 4 (refine zl_pureL rfl ?_)
      iterate 3 (refine zl_skip rfl ?_)
      refine zl_pureL rfl ?_
      refine zl_skip rfl ?_
      refine zl_pureL rfl ?_
      refine zl_skip rfl ?_
      iterate 2 (refine zl_pureL rfl ?_)
      refine zl_nil ?_
      refine zk_seq ?_
      refine zc_true rfl ?_
      refine zc_seq ?_
      refine zc_region ?_
      refine zl_pureL rfl ?_
      refine zl_nil ?_
      refine zk_seq ?_
      refine zc_ret ?_
      refine zk_ret_block ?_
      iterate 2 (refine zk_ret_then ?_)
      refine zk_ret_block ?_
      refine zk_ret_then ?_
      exact zk_ret1 (.inr rfl) rfl rfl ⟨⟨false, rfl, L2, hb2, fun h => by cases h⟩, hCw2⟩
    · have hc4 := (hN.no hCu2).c4
      refine z_cmpB (r := false) want_none (by decide) rfl rfl rfl (iff_of_false Bool.false_ne_true (by omega)) ?_
      iterate 2 (refine zl_pureL rfl ?_)
      refine z_cmpB (r := false) (want_L rfl) (by decide) rfl rfl rfl (iff_of_false Bool.false_ne_true (by omega)) ?_
      iterate 4 (refine zl_pureL rfl ?_)
      refine z_ia (want_L rfl) (by decide) rfl rfl (by omega) (by omega) ?_
      refine z_fa (want_L rfl) (by decide) rfl ?_
      refine z_load1 (want_L rfl) (by decide) rfl (by assumption) ?_
      refine zl_pureL rfl ?_
      refine z_add (want_L rfl) (by decide) rfl rfl (by omega) (by omega) ?_
      refine zl_pureL rfl ?_
      refine zl_call (by first | exact want_none | exact want_L rfl) rfl (by decide) rfl (ih k (lv := lv + 1) (by omega) hK hCu2 hbl hb2 (by omega) (by omega) (by omega) (by omega) (by rw [hbig]; omega)) ?_
      rintro _ z3 ⟨⟨q, rfl, L3, hb3, hq⟩, hC3⟩
      refine ⟨_, rfl, ?_⟩
      have hCw3 : Chg w z3 (· = bl) := hCw2.trans hC3 (fun _ _ h => h)
      cases q
      · iterate 2 (refine zl_pureL rfl ?_)
        refine zl_nil ?_
        refine zk_seq ?_
        refine zc_true rfl ?_
        refine zc_seq ?_
        refine zc_region ?_
        refine zl_pureL rfl ?_
        refine zl_nil ?_
        refine zk_seq ?_
        refine zc_ret ?_
        refine zk_ret_block ?_
        iterate 2 (refine zk_ret_then ?_)
        refine zk_ret_block ?_
        refine zk_ret_then ?_
        exact zk_ret1 (.inr rfl) rfl rfl ⟨⟨false, rfl, L3, hb3, fun h => by cases h⟩, hCw3⟩
      · obtain ⟨hq0, hq1⟩ := hq rfl
        iterate 2 (refine zl_pureL rfl ?_)
        refine zl_nil ?_
        refine zk_seq ?_
        refine zc_false rfl ?_
        refine zc_skip ?_
        refine zk_norm_block ?_
        refine zk_seq ?_
        refine zc_region ?_
        refine zl_pureL rfl ?_
        refine z_add want_none (by decide) rfl rfl (by omega) (by omega) ?_
        refine zl_pureL rfl ?_
        refine zl_nil ?_
        exact zk_loopW (i + 1, L3) ⟨by omega, hb3, hq0, hq1, hCw3, hCu2.trans hC3 (fun k hk he => by omega)⟩ (by show t.len - (i + 1) < t.len - i; omega) ⟨rfl, rfl, rfl, get_int rfl (by simp), trivial⟩
theorem small_top {w : World} {v : Value} (t : AT) (h : TreeAt false w v t) (hl : t.wt ≤ big) : Calls Try.prog 14 [v].toArray w fun e w' => (∃ q : Bool, e = .returned (.bool q)) ∧ Chg w w' No := by
  obtain ⟨A, c, rfl, _⟩ := h.form
  refine calls_zc (n := 6) (f := 14) (fn := Try.f14) Try.func14 rfl rfl (by simp) ?_
  refine zc_seq ?_
  refine zc_region ?_
  refine zl_pureL rfl ?_
  refine zl_nil ?_
  refine zk_seq ?_
  refine zc_seq ?_
  refine zc_region ?_
  refine z_alloc (by first | exact want_none | exact want_L rfl) (by decide) (fun w1 b1 hN1 => ?_)
  have hb1 : Blk w1 b1 3 [.int .i64 0] := hN1.blk
  refine z_store (by first | exact want_none | exact want_L rfl) rfl rfl rfl (by assumption) (by first | exact Nat.le_refl _ | simp [Value.cells]) (by simp [Value.cells, Value.oneCell']) (fun w2 hU2 => ?_)
  have hb2 : Blk w2 b1 3 [.int .i64 300] := hU2.blk
  have hC2 : Chg w w2 No := hN1.chg.upd hU2 (hN1.ge (Chg.refl _ No))
  refine zl_nil ?_
  refine zk_seq ?_
  refine zc_seq ?_
  refine zc_region ?_
  refine zl_pureL rfl ?_
  refine zl_call (by first | exact want_none | exact want_L rfl) rfl (by decide) rfl (small_calls t.size t (Nat.le_refl _) h hC2 (Nat.le_of_eq hN1.at_.symm) hb2 (by decide) (by decide) (by decide) (by decide) hl) ?_
  rintro _ w3 ⟨⟨q, rfl, _⟩, hC3⟩
  refine ⟨_, rfl, ?_⟩
  refine zl_pureL rfl ?_
  refine zl_nil ?_
  refine zk_seq ?_
  refine zc_ret ?_
  exact zk_ret1 (.inr rfl) rfl rfl ⟨⟨q, rfl⟩, hC2.trans hC3 (fun k hk he => by have := hN1.at_; omega)⟩
end Go.Proofs.Ytbcmiijollpgeaa.T
