import Derived.Test.YtjiehalanklapaaDNum3
/- Small. -/
namespace Go.Proofs.Ytjiehalanklapaa.D
open Go Go.Z Go.Proofs
set_option linter.unusedVariables false
/-- nodes and attributes in all -/
def sizeA : NT → Nat
  | .nil => 0
  | .cons x k r => 1 + x.attrs.length + sizeA k + sizeA r
theorem sizeA_size : ∀ t : NT, t.size ≤ sizeA t
  | .nil => Nat.le_refl _
  | .cons x k r => by have := sizeA_size k; have := sizeA_size r; simp only [sizeA, NT.size]; omega
theorem sizeA_few : ∀ t : NT, sizeA t ≤ 100000 → FewT t
  | .nil, _ => trivial
  | .cons x k r, h => by
    simp only [sizeA] at h
    exact ⟨by omega, sizeA_few k (by omega), sizeA_few r (by omega)⟩
/-- no row is longer than a row may be -/
def RightT : NT → Prop
  | .nil => True
  | .cons x k r => x.attrs.length ≤ 9223372036854775807 ∧ k.len ≤ 9223372036854775807 ∧ RightT k ∧ RightT r
theorem RightT.drop : ∀ (t : NT) (i : Nat) (x : Hd) (k r : NT), RightT t → t.dropN i = .cons x k r → x.attrs.length ≤ 9223372036854775807 ∧ k.len ≤ 9223372036854775807 ∧ RightT k ∧ RightT r
  | .nil, 0, x, k, r, _, h => by cases h
  | .cons _ _ _, 0, x, k, r, hf, h => by cases h; exact hf
  | .nil, i + 1, x, k, r, _, h => by cases h
  | .cons _ _ q, i + 1, x, k, r, hf, h => RightT.drop q i x k r hf.2.2.2 h
set_option maxHeartbeats 4000000 in
theorem small_calls : ∀ (f : Nat) {w : World} {v : Value} {t : NT} {pb : Nat} {m : Nat} {lv : Nat}, TreeAt w v t → RightT t → t.len ≤ 9223372036854775807 → Blk w pb 3 [.int .i64 m] → m ≤ 300 → lv ≤ 61 → t.size ≤ f →
    Calls Try.prog 55 [v, .int .i64 lv, .pointer (some ⟨pb, 0, none⟩)].toArray w fun e w' => ∃ q, e = .returned (.bool q) ∧ (q = true → ∃ m', m' + sizeA t = m ∧ Blk w' pb 3 [.int .i64 (m' : Nat)]) ∧ Chg w w' (· = pb) := by
  intro f
  induction f with
  | zero =>
    intro w v t pb m lv h hrt hlen hb hm hlv hs
    cases t with
    | cons x k r => simp [NT.size] at hs
    | nil =>
      obtain ⟨A, c, rfl, hc⟩ := h.form
      refine calls_zc (n := 47) (f := 55) (fn := Try.f55) Try.func55 rfl rfl (by simp) ?_
      rw [show NT.nil.len = 0 from rfl]
      refine zc_seq ?_
      refine zc_region ?_
      refine zl_pureL rfl ?_
      refine zl_nil ?_
      refine zk_seq ?_
      iterate 2 (refine zc_seq ?_)
      refine zc_region ?_
      refine zl_pureL rfl ?_
      refine zl_nil ?_
      refine zk_seq ?_
      refine zc_block ?_
      refine zc_loopW (ι := Nat) (fun i u => [(0, .slice A 0 c), (7, .int .i64 0)]) (fun i u => u = w) (fun i u => 0) 0 rfl ?_ ?_
      · exact ⟨rfl, rfl, trivial⟩
      rintro i u rfl
      iterate 2 (refine zc_seq ?_)
      refine zc_region ?_
      iterate 2 (refine zl_pureL rfl ?_)
      refine z_len want_none (by decide) rfl ?_
      refine z_cmpB (r := false) want_none (by decide) rfl rfl rfl (iff_of_false Bool.false_ne_true (by omega)) ?_
      refine zl_nil ?_
      refine zk_seq ?_
      refine zc_false rfl ?_
      refine zc_exit ?_
      iterate 2 (refine zk_exit_then ?_)
      refine zk_exit_block ?_
      refine zk_seq ?_
      refine zc_seq ?_
      refine zc_region ?_
      refine zl_pureL rfl ?_
      refine zl_nil ?_
      refine zk_seq ?_
      refine zc_ret ?_
      exact zk_ret1 (.inr rfl) rfl rfl ⟨true, rfl, fun _ => ⟨m, rfl, hb⟩, Chg.refl _ _⟩
  | succ f ih =>
    intro w v t pb m lv h hrt hlen hb hm hlv hs
    obtain ⟨A, c, hv, hc⟩ := h.form
    subst hv
    refine calls_zc (n := 47) (f := 55) (fn := Try.f55) Try.func55 rfl rfl (by simp) ?_
    refine zc_seq ?_
    refine zc_region ?_
    refine zl_pureL rfl ?_
    refine zl_nil ?_
    refine zk_seq ?_
    iterate 2 (refine zc_seq ?_)
    refine zc_region ?_
    refine zl_pureL rfl ?_
    refine zl_nil ?_
    refine zk_seq ?_
    refine zc_block ?_
    refine zc_loopW (ι := Nat × Nat) (fun q u => [(0, .slice A t.len c), (1, .int .i64 lv), (2, .pointer (some ⟨pb, 0, none⟩)), (7, .int .i64 q.1)])
      (fun q u => q.1 ≤ t.len ∧ q.2 ≤ m ∧ (∀ m', m' + sizeA (t.dropN q.1) = q.2 → m' + sizeA t = m) ∧ Blk u pb 3 [.int .i64 (q.2 : Nat)] ∧ Chg w u (· = pb)) (fun q u => t.len - q.1) (0, m) ⟨Nat.zero_le _, Nat.le_refl _, fun _ h => h, hb, Chg.refl _ _⟩ ?_ ?_
    · exact ⟨rfl, rfl, rfl, rfl, trivial⟩
    rintro ⟨i, mi⟩ u ⟨hi, hmi, hd, hpb, hC⟩
    dsimp only at hi hmi hd hpb ⊢
    by_cases hlt : i < t.len
    · have hu := h.blk hb hC (by decide) (by decide)
      obtain ⟨b, o, c', x, k, r, A', K, e1, hv, hN, hA, hK⟩ := hu.at_ i hlt
      cases hv
      have hsz := t.drop_size i
      rw [e1] at hsz hd
      simp only [NT.size] at hsz
      simp only [sizeA] at hd
      obtain ⟨hxa, hkl, hrk, hrr⟩ := hrt.drop t i x k r e1
      obtain ⟨A2, c2, rfl, _⟩ := hA.form
      iterate 2 (refine zc_seq ?_)
      refine zc_region ?_
      iterate 2 (refine zl_pureL rfl ?_)
      refine z_len want_none (by decide) rfl ?_
      refine z_cmpB (r := true) want_none (by decide) rfl rfl rfl (iff_of_true rfl (by omega)) ?_
      refine zl_nil ?_
      refine zk_seq ?_
      refine zc_true rfl ?_
      refine zc_skip ?_
      refine zk_seq ?_
      refine zc_seq ?_
      refine zc_block ?_
      refine zc_seq ?_
      refine zc_draw [13] (fun w' => Blk w' pb 3 [.int .i64 mi] ∧ Chg u w' No) (.take 0 (.take 1 (.take 2 (.take 3 (.take 4 (.take 5 (.take 6 (.take 7 (.take 8 (.take 9 (.take 10 (.take 11 (.take 12 (.last 13)))))))))))))) (by rfl) (by kernel_rfl) (by kernel_rfl) (fun w1 hC1 hH1 => ⟨?_, ?_⟩)
      · exact ⟨hpb.no hC1, hC1⟩
      have hpb1 := hpb.no hC1
      iterate 3 (refine zs_take rfl (zt_pure rfl ?_))
      refine zs_rdL rfl want_none rfl (by decide) (fun _ hS => r_loadB rfl hS.1 (by rfl)) ?_
      refine zs_rdL rfl want_none rfl (by decide) (fun _ hS => r_sub rfl rfl (by omega) (by omega)) ?_
      iterate 2 (refine zs_take rfl (zt_pure rfl ?_))
      refine zs_rdL rfl want_none rfl (by decide) (fun _ hS => r_ia rfl rfl (by omega) (by omega)) ?_
      refine zs_rdL rfl want_none rfl (by decide) (fun _ hS => r_fa rfl) ?_
      refine zs_rdL rfl (by first | exact want_none | exact want_L rfl) rfl (by decide) (fun _ hS => r_load1 rfl (cell_at (hN.no hS.2).c3 (by omega))) ?_
      refine zs_rdL rfl want_none rfl (by decide) (fun _ hS => r_len rfl) ?_
      refine zs_rdL rfl want_none rfl (by decide) (fun _ hS => r_sub rfl rfl (by omega) (by omega)) ?_
      refine zs_take rfl (zt_pure rfl ?_)
      refine zs_storeL rfl (by first | exact want_none | exact want_L rfl) rfl rfl rfl (by assumption) (by first | exact Nat.le_refl _ | simp [Value.cells]) (by simp [Value.cells, Value.oneCell']) (fun u2 hU2 => ?_)
      have hpb2 : Blk u2 pb 3 [.int .i64 ((mi : Int) - 1 - x.attrs.length)] := hU2.blk
      have hC2 : Chg w u2 (· = pb) := (hC.no hC1).trans hU2.chg (fun _ _ h => h)
      have hC12 : Chg u u2 (· = pb) := (hC1.mono (fun _ _ h => h.elim)).trans hU2.chg (fun _ _ h => h)
      by_cases hneg : (mi : Int) - 1 - x.attrs.length < 0
      · refine zk_seq ?_
        refine zc_seq ?_
        refine zc_region ?_
        iterate 2 (refine zl_pureL rfl ?_)
        refine z_loadB want_none (by decide) rfl (by assumption) (by rfl) ?_
        refine z_cmpB (r := true) want_none (by decide) rfl rfl rfl (iff_of_true rfl (by omega)) ?_
        iterate 2 (refine zl_pureL rfl ?_)
        refine zl_skip rfl ?_
        iterate 4 (refine zl_pureL rfl ?_)
        iterate 3 (refine zl_skip rfl ?_)
        refine zl_pureL rfl ?_
        refine zl_skip rfl ?_
        refine zl_pureL rfl ?_
        refine zl_skip rfl ?_
        iterate 2 (refine zl_pureL rfl ?_)
        refine zl_nil ?_
        refine zk_seq ?_
        refine zc_true rfl ?_
        refine zc_seq ?_
        refine zc_region ?_
        refine zl_pureL rfl ?_
        refine zl_nil ?_
        refine zk_seq ?_
        refine zc_ret ?_
        refine zk_ret_block ?_
        iterate 2 (refine zk_ret_then ?_)
        refine zk_ret_block ?_
        refine zk_ret_then ?_
        exact zk_ret1 (.inr rfl) rfl rfl ⟨false, rfl, fun h => absurd h Bool.false_ne_true, hC2⟩
      · obtain ⟨m2, hm2⟩ := Int.eq_ofNat_of_zero_le (show 0 ≤ (mi : Int) - 1 - x.attrs.length by omega)
        rw [hm2] at hpb2 hneg
        by_cases hl60 : 60 < lv
        · refine zk_seq ?_
          refine zc_seq ?_
          refine zc_region ?_
          iterate 2 (refine zl_pureL rfl ?_)
          refine z_loadB want_none (by decide) rfl (by assumption) (by rfl) ?_
          refine z_cmpB (r := false) want_none (by decide) rfl rfl rfl (iff_of_false Bool.false_ne_true (by omega)) ?_
          iterate 2 (refine zl_pureL rfl ?_)
          refine z_cmpB (r := true) (want_L rfl) (by decide) rfl rfl rfl (iff_of_true rfl (by omega)) ?_
          iterate 4 (refine zl_pureL rfl ?_)
          iterate 3 (refine zl_skip rfl ?_)
          refine zl_pureL rfl ?_
          refine zl_skip rfl ?_
          refine zl_pureL rfl ?_
          refine zl_skip rfl ?_
          iterate 2 (refine zl_pureL rfl ?_)
          refine zl_nil ?_
          refine zk_seq ?_
          refine zc_true rfl ?_
          refine zc_seq ?_
          refine zc_region ?_
          refine zl_pureL rfl ?_
          refine zl_nil ?_
          refine zk_seq ?_
          refine zc_ret ?_
          refine zk_ret_block ?_
          iterate 2 (refine zk_ret_then ?_)
          refine zk_ret_block ?_
          refine zk_ret_then ?_
          exact zk_ret1 (.inr rfl) rfl rfl ⟨false, rfl, fun h => absurd h Bool.false_ne_true, hC2⟩
        · skip
          obtain ⟨b', o', c'', x', k', r', A'', K', e1', hv', hN2, hA', hK2⟩ := (h.blk hb hC2 (by decide) (by decide)).at_ i hlt
          cases hv'
          rw [e1] at e1'
          cases e1'
          refine zk_seq ?_
          refine zc_seq ?_
          refine zc_region ?_
          iterate 2 (refine zl_pureL rfl ?_)
          refine z_loadB want_none (by decide) rfl (by assumption) (by rfl) ?_
          refine z_cmpB (r := false) want_none (by decide) rfl rfl rfl (iff_of_false Bool.false_ne_true (by omega)) ?_
          iterate 2 (refine zl_pureL rfl ?_)
          refine z_cmpB (r := false) (want_L rfl) (by decide) rfl rfl rfl (iff_of_false Bool.false_ne_true (by omega)) ?_
          iterate 4 (refine zl_pureL rfl ?_)
          refine z_ia (want_L rfl) (by decide) rfl rfl (by omega) (by omega) ?_
          refine z_fa (want_L rfl) (by decide) rfl ?_
          refine z_load1 (by first | exact want_none | exact want_L rfl) (by decide) rfl (cell_at hN2.c6 (by omega)) ?_
          refine zl_pureL rfl ?_
          refine z_add (want_L rfl) (by decide) rfl rfl (by omega) (by omega) ?_
          refine zl_pureL rfl ?_
          rw [show (lv : Int) + 1 = ((lv + 1 : Nat) : Int) by omega]
          refine zl_call (by first | exact want_none | exact want_L rfl) rfl (by decide) rfl (ih hK2 hrk hkl hpb2 (by omega) (by omega) (by omega)) ?_
          rintro _ u3 ⟨q, rfl, hq, hC3⟩
          refine ⟨_, rfl, ?_⟩
          have hC3' : Chg w u3 (· = pb) := hC2.trans hC3 (fun _ _ h => h)
          cases q
          · iterate 2 (refine zl_pureL rfl ?_)
            refine zl_nil ?_
            refine zk_seq ?_
            refine zc_true rfl ?_
            refine zc_seq ?_
            refine zc_region ?_
            refine zl_pureL rfl ?_
            refine zl_nil ?_
            refine zk_seq ?_
            refine zc_ret ?_
            refine zk_ret_block ?_
            iterate 2 (refine zk_ret_then ?_)
            refine zk_ret_block ?_
            refine zk_ret_then ?_
            exact zk_ret1 (.inr rfl) rfl rfl ⟨false, rfl, fun h => absurd h Bool.false_ne_true, hC3'⟩
          · obtain ⟨m3, hm3, hpb3⟩ := hq rfl
            iterate 2 (refine zl_pureL rfl ?_)
            refine zl_nil ?_
            refine zk_seq ?_
            refine zc_false rfl ?_
            refine zc_skip ?_
            refine zk_norm_block ?_
            refine zk_seq ?_
            refine zc_region ?_
            refine zl_pureL rfl ?_
            refine z_add want_none (by decide) rfl rfl (by omega) (by omega) ?_
            refine zl_pureL rfl ?_
            refine zl_nil ?_
            refine zk_loopW (i + 1, m3) ⟨by omega, by show m3 ≤ m; omega, ?_, hpb3, hC3'⟩ (by show t.len - (i + 1) < t.len - i; omega) ⟨rfl, rfl, rfl, get_int rfl (by simp), trivial⟩
            dsimp only
            rw [t.drop_succ i x k r e1]
            intro m' hm'
            exact hd m' (by omega)
    · obtain rfl : i = t.len := by omega
      rw [t.drop_len] at hd
      iterate 2 (refine zc_seq ?_)
      refine zc_region ?_
      iterate 2 (refine zl_pureL rfl ?_)
      refine z_len want_none (by decide) rfl ?_
      refine z_cmpB (r := false) want_none (by decide) rfl rfl rfl (iff_of_false Bool.false_ne_true (by omega)) ?_
      refine zl_nil ?_
      refine zk_seq ?_
      refine zc_false rfl ?_
      refine zc_exit ?_
      iterate 2 (refine zk_exit_then ?_)
      refine zk_exit_block ?_
      refine zk_seq ?_
      refine zc_seq ?_
      refine zc_region ?_
      refine zl_pureL rfl ?_
      refine zl_nil ?_
      refine zk_seq ?_
      refine zc_ret ?_
      exact zk_ret1 (.inr rfl) rfl rfl ⟨true, rfl, fun _ => ⟨mi, hd mi rfl, hpb⟩, hC⟩
theorem Small_calls {w : World} {v : Value} {t : NT} (h : TreeAt w v t) (hrt : RightT t) (hlen : t.len ≤ 9223372036854775807) :
    Calls Try.prog 32 [v].toArray w fun e w' => ∃ q, e = .returned (.bool q) ∧ (q = true → sizeA t ≤ 300) ∧ Chg w w' No := by
  obtain ⟨A, c, rfl, hc⟩ := h.form
  refine calls_zc (n := 6) (f := 32) (fn := Try.f32) Try.func32 rfl rfl (by simp) ?_
  refine zc_seq ?_
  refine zc_region ?_
  refine zl_pureL rfl ?_
  refine zl_nil ?_
  refine zk_seq ?_
  refine zc_seq ?_
  refine zc_region ?_
  refine z_alloc (by first | exact want_none | exact want_L rfl) (by decide) (fun w1 b1 hN1 => ?_)
  have hb1 : Blk w1 b1 3 [.int .i64 0] := hN1.blk
  skip
  refine z_store (by first | exact want_none | exact want_L rfl) rfl rfl rfl (by assumption) (by first | exact Nat.le_refl _ | simp [Value.cells]) (by simp [Value.cells, Value.oneCell']) (fun w2 hU2 => ?_)
  have hb2 : Blk w2 b1 3 [.int .i64 ((300 : Nat) : Int)] := hU2.blk
  have hC2 := hN1.chg.upd hU2 (hN1.ge (Chg.refl _ No))
  refine zl_nil ?_
  refine zk_seq ?_
  refine zc_seq ?_
  refine zc_region ?_
  refine zl_pureL rfl ?_
  refine zl_call (by first | exact want_none | exact want_L rfl) rfl (by decide) rfl (small_calls (lv := 0) t.size (h.no hC2) hrt hlen hb2 (Nat.le_refl _) (Nat.zero_le _) (Nat.le_refl _)) ?_
  rintro _ w3 ⟨q, rfl, hq, hC3⟩
  refine ⟨_, rfl, ?_⟩
  refine zl_pureL rfl ?_
  refine zl_nil ?_
  refine zk_seq ?_
  refine zc_ret ?_
  exact zk_ret1 (.inr rfl) rfl rfl ⟨q, rfl, fun h => by obtain ⟨m', h1, _⟩ := hq h; omega, hC2.trans hC3 (fun i hi he => by subst he; have := hN1.at_; omega)⟩
end Go.Proofs.Ytjiehalanklapaa.D
