import Derived.Test.YtbcmiijollpgeaaPBlk
/- Blocks of a tape: the walk. -/
namespace Go.Proofs.Ytbcmiijollpgeaa.T
open Go Go.Z Go.Proofs
set_option linter.unusedVariables false
def lUl : List (List UInt8) := [[117, 108], [111, 108]]
theorem lUl_nm : ∀ x ∈ lUl, x ∈ lNm := by decide
def nLi : List UInt8 := [108, 105]
def nBq : List UInt8 := [98, 108, 111, 99, 107, 113, 117, 111, 116, 101]
theorem rb_of {w : World} {b : Nat} {l : List UInt8} (h : Blk w b 5 (cellsB l)) : RB w (.slice (some ⟨b, 0, none⟩) l.length l.length) l := by
  refine ⟨_, _, rfl, Nat.le_refl _, fun hl => ⟨b, 0, rfl, fun i hi => ?_⟩⟩
  rw [Nat.zero_add, h.cell i]
  exact cellsB_at l i hi
theorem blZ_div : ∀ d, 1100 ≤ blZ d / 3
  | 0 => by decide
  | d + 1 => by have := blZ_ge d; simp only [blZ]; omega
set_option maxRecDepth 100000 in
set_option maxHeartbeats 32000000 in
theorem blocks_body {lv d : Nat} (hl : lv ≤ 50) (hd100 : blZ d ≤ 1000000000) (hrec : lv ≤ 3 → ∃ d', d = d' + 1 ∧ BlkC (lv + 1) d' ∧ ItemC (lv + 1) d' ∧ ItemC (lv + 2) d') : BlkC lv d := by
  intro w B bt li hT0 hli
  subst hli
  have hbtlt := hT0.lt
  have hbtge := hT0.ge
  refine calls_zc (n := 116) (f := 21) (fn := Try.f21) Try.func21 rfl rfl (by simp) ?_
  refine zc_seq ?_
  refine zc_region ?_
  refine zl_pureL rfl ?_
  refine zl_nil ?_
  refine zk_seq ?_
  refine zc_seq ?_
  refine zc_region ?_
  refine zl_pureL rfl ?_
  refine zl_nil ?_
  refine zk_seq ?_
  refine zc_seq ?_
  refine zc_region ?_
  refine zl_pureL rfl ?_
  refine zl_call (by first | exact want_none | exact want_L rfl) rfl (by decide) rfl (next_calls hT0 3 (by decide) (by decide) rfl) ?_
  rintro _ w1 ⟨⟨kn, hkn, rfl⟩, hT1, hC1⟩
  refine ⟨_, rfl, ?_⟩
  have hE := blZ_div d
  refine z_add want_none (by decide) rfl rfl (by omega) (by omega) ?_
  refine zl_pureL rfl ?_
  refine zl_nil ?_
  refine zk_seq ?_
  iterate 2 (refine zc_seq ?_)
  refine zc_region ?_
  refine zl_pureL rfl ?_
  refine zl_nil ?_
  refine zk_seq ?_
  refine zc_block ?_
  refine zc_loopW (ι := Nat × Value × AT) (fun q u => [(0, .pointer (some ⟨bt, 0, none⟩)), (1, .int .i64 lv), (5, q.2.1), (6, .int .i64 (1 + (kn : Int))), (7, .int .i64 q.1)])
    (fun q u => q.1 ≤ 1 + kn ∧ Out w.heap.size u q.2.1 q.2.2 ∧ q.2.2.ok ∧ q.2.2.len = q.1 ∧ q.2.2.size + (1 + kn - q.1) * (blZ d / 3) ≤ (1 + kn) * (blZ d / 3) ∧ Tp u B bt ∧ Chg w u (· = bt)) (fun q u => 1 + kn - q.1) (0, nS, .nil) ⟨Nat.zero_le _, Out.nil, trivial, rfl, by simp [AT.size], hT1, hC1⟩ ?_ ?_
  · exact ⟨rfl, rfl, rfl, rfl, rfl, trivial⟩
  rintro ⟨i, vo, t⟩ u ⟨hi, hO, hok, hlen, hsz, hT, hC⟩
  dsimp only at hi hO hok hlen hsz hT hC ⊢
  have hws := hC.size
  by_cases hlt : i < 1 + kn
  rotate_left
  · obtain rfl : i = 1 + kn := by omega
    iterate 2 (refine zc_seq ?_)
    refine zc_region ?_
    iterate 2 (refine zl_pureL rfl ?_)
    refine z_cmpB (r := false) want_none (by decide) rfl rfl rfl (iff_of_false Bool.false_ne_true (by omega)) ?_
    refine zl_nil ?_
    refine zk_seq ?_
    refine zc_false rfl ?_
    refine zc_exit ?_
    iterate 2 (refine zk_exit_then ?_)
    refine zk_exit_block ?_
    refine zk_seq ?_
    refine zc_seq ?_
    refine zc_region ?_
    iterate 2 (refine zl_pureL rfl ?_)
    refine zl_nil ?_
    refine zk_seq ?_
    refine zc_ret ?_
    have hz : (1 + kn) * (blZ d / 3) ≤ blZ d := by
      have h1 := Nat.mul_le_mul_right (blZ d / 3) (show 1 + kn ≤ 3 by omega)
      have h2 := Nat.mul_div_le (blZ d) 3
      omega
    exact zk_ret1 (.inr rfl) rfl rfl ⟨_, t, rfl, hO, hok, by omega, hT, hC, by omega⟩
  obtain ⟨A0, c0, hvo, hc0⟩ := hO.form
  subst hvo
  have hlt3 : t.len ≤ 3 := by omega
  iterate 2 (refine zc_seq ?_)
  refine zc_region ?_
  iterate 2 (refine zl_pureL rfl ?_)
  refine z_cmpB (r := true) want_none (by decide) rfl rfl rfl (iff_of_true rfl (by omega)) ?_
  refine zl_nil ?_
  refine zk_seq ?_
  refine zc_true rfl ?_
  refine zc_skip ?_
  refine zk_seq ?_
  refine zc_seq ?_
  refine zc_block ?_
  refine zc_seq ?_
  refine zc_region ?_
  refine zl_pureL rfl ?_
  refine zl_call (by first | exact want_none | exact want_L rfl) rfl (by decide) rfl (next_calls hT 12 (by decide) (by decide) rfl) ?_
  rintro _ u1 ⟨⟨k0, hk0, rfl⟩, hTa, hXa⟩
  refine ⟨_, rfl, ?_⟩
  have hOa := hO.tp hT hXa
  have hCa : Chg w u1 (· = bt) := hC.trans hXa (fun _ _ h => h)
  have hsa := hCa.size
  refine zl_pureL rfl ?_
  refine zl_nil ?_
  refine zk_seq ?_
  refine zc_midX (ι := Nat) (fun k u' => u' = u1 ∧ k < 12 ∧ (3 < lv → k < 6)) (fun k => [(0, .pointer (some ⟨bt, 0, none⟩)), (1, .int .i64 lv), (5, .slice A0 t.len c0), (6, .int .i64 (1 + (kn : Int))), (7, .int .i64 i), (8, .int .i64 k)]) ?_ ?_
  · by_cases h3 : 3 < lv
    · refine zc_seq ?_
      refine zc_region ?_
      refine zl_pureL rfl ?_
      refine z_cmpB (r := true) want_none (by decide) rfl rfl rfl (iff_of_true rfl (by omega)) ?_
      refine zl_nil ?_
      refine zk_seq ?_
      refine zc_true rfl ?_
      refine zc_region ?_
      refine zl_pureL rfl ?_
      refine z_rem (by first | exact want_none | exact want_L rfl) (by decide) rfl rfl (by decide) ?_
      have e6 : (k0 : Int).tmod 6 = ((k0 % 6 : Nat) : Int) := by rw [Int.tmod_eq_emod_of_nonneg (by omega)]; omega
      refine zl_pureL rfl ?_
      refine zl_nil ?_
      exact zk_midX (k0 % 6) ⟨rfl, by omega, fun _ => by omega⟩ ⟨rfl, rfl, rfl, rfl, rfl, get_int rfl e6, trivial⟩
    · refine zc_seq ?_
      refine zc_region ?_
      refine zl_pureL rfl ?_
      refine z_cmpB (r := false) want_none (by decide) rfl rfl rfl (iff_of_false Bool.false_ne_true (by omega)) ?_
      refine zl_nil ?_
      refine zk_seq ?_
      refine zc_false rfl ?_
      refine zc_skip ?_
      exact zk_midX k0 ⟨rfl, hk0, fun h => absurd h h3⟩ ⟨rfl, rfl, rfl, rfl, rfl, rfl, trivial⟩
  rintro k uq ⟨huq, hk12, hk6⟩
  obtain rfl := huq.symm
  refine zc_midBX (ι := Value × AT) (fun q u' => Out w.heap.size u' q.1 q.2 ∧ q.2.ok ∧ q.2.len = i + 1 ∧ q.2.size ≤ t.size + blZ d / 3 ∧ Tp u' B bt ∧ Chg w u' (· = bt)) (fun q => [(0, .pointer (some ⟨bt, 0, none⟩)), (1, .int .i64 lv), (5, q.1), (6, .int .i64 (1 + (kn : Int))), (7, .int .i64 i)]) ?_ ?_
  rotate_left
  · rintro ⟨vo', t'⟩ u' ⟨g1, g2, g3, g4, g5, g6⟩
    dsimp only at g1 g2 g3 g4 g5 g6 ⊢
    refine zc_region ?_
    refine zl_pureL rfl ?_
    refine z_add want_none (by decide) rfl rfl (by omega) (by omega) ?_
    refine zl_pureL rfl ?_
    refine zl_nil ?_
    refine zk_loopW (i + 1, vo', t') ⟨by omega, g1, g2, g3, ?_, g5, g6⟩ (by show 1 + kn - (i + 1) < 1 + kn - i; omega) ⟨rfl, rfl, rfl, rfl, get_int rfl (by simp), trivial⟩
    dsimp only
    obtain ⟨m, hm⟩ : ∃ m, 1 + kn - i = m + 1 := ⟨1 + kn - i - 1, by omega⟩
    rw [hm, Nat.add_mul, Nat.one_mul] at hsz
    rw [show 1 + kn - (i + 1) = m by omega]; omega
  by_cases hk4 : k < 4
  · refine zc_block ?_
    refine zc_seq ?_
    refine zc_region ?_
    refine zl_pureL rfl ?_
    refine z_cmpB (r := true) want_none (by decide) rfl rfl rfl (iff_of_true rfl (by omega)) ?_
    refine zl_pureL rfl ?_
    refine zl_nil ?_
    refine zk_seq ?_
    refine zc_true rfl ?_
    refine zc_drawK 10 (GP bt k w.heap.size 1093 (.slice A0 t.len c0) t) killGP (fun b z' => Tp z' B bt ∧ Chg w z' (· = bt) ∧ w.heap.size ≤ z'.heap.size ∧ (b.getD 9 false = false → Out w.heap.size z' (.slice A0 t.len c0) t))
      [(0, .pointer (some ⟨bt, 0, none⟩)), (1, .int .i64 lv), (5, .slice A0 t.len c0), (6, .int .i64 (1 + (kn : Int))), (7, .int .i64 i), (8, .int .i64 k)] (by rfl) (by kernel_rfl) (by kernel_rfl) ⟨rfl, rfl, rfl, rfl, rfl, rfl, trivial⟩ (fun z' hz _ => ⟨hTa.no hz, hCa.no hz, by have := hz.size; omega, fun _ => hOa.no hz⟩) ?_ (by decide) (fun _ => ⟨by kernel_rfl, by kernel_rfl⟩) ?_
    · intro i' hi' b a y hbsz hbi hcl hL
      obtain ⟨hok', ⟨hTy, hCy, hszy, hOut⟩, hd⟩ := hL
      have hstay : ∀ {j : Nat}, j ≠ 9 → (b.setIfInBounds j true).getD 9 false = false → b.getD 9 false = false := fun hj h => by rwa [gd_ne hj] at h
      have hnew : ∀ {y' : World}, Chg y y' No → ∀ {j : Nat}, j ≠ 9 → (Tp y' B bt ∧ Chg w y' (· = bt) ∧ w.heap.size ≤ y'.heap.size ∧ ((b.setIfInBounds j true).getD 9 false = false → Out w.heap.size y' (.slice A0 t.len c0) t)) := fun hy j hj => ⟨hTy.no hy, hCy.no hy, by have := hy.size; omega, fun h => (hOut (hstay hj h)).no hy⟩
      have hnx : ∀ {y' : World}, Tp y' B bt → Chg y y' (· = bt) → ∀ {j : Nat}, j ≠ 9 → (Tp y' B bt ∧ Chg w y' (· = bt) ∧ w.heap.size ≤ y'.heap.size ∧ ((b.setIfInBounds j true).getD 9 false = false → Out w.heap.size y' (.slice A0 t.len c0) t)) := fun hT' hy j hj => ⟨hT', hCy.trans hy (fun _ _ h => h), by have := hy.size; omega, fun h => (hOut (hstay hj h)).tp hTy hy⟩
      have hsame := fun {j : Nat} (hj : j ≠ 9) => hnew (Chg.refl y No) hj
      have g : ∀ j, waits _ i' j = true → (killGP j = i' ∨ 10 ≤ killGP j) → ∀ dj, dstOf _ j = some dj → ∃ v, a.tmps[dj]? = some v ∧ GP bt k w.heap.size 1093 (.slice A0 t.len c0) t j v y := fun j hw hk dj hdj => by
        obtain ⟨v, h1, h2⟩ := hd j hw dj hdj
        exact ⟨v, h1, h2 (fun hh => hh hk)⟩
      match i', hi' with
      | 0, _ => exact ⟨35, rfl, wo_pure rfl hok' rfl ⟨_, rfl, rfl, hsame (by decide), fun _ _ _ _ h => h⟩⟩
      | 1, _ =>
        have hN := New.mk' y 9 (strs lP)
        exact ⟨36, rfl, wo_run rfl (by first | exact want_none | exact want_L rfl) rfl hok' (run_bsE (strs lP) rfl (by decide) (by decide) (by kernel_rfl)) ⟨_, rfl, ⟨_, rfl, hN.blk⟩, hnew hN.chg (by decide), fun j u _ _ h => GP.no hTy hN.chg j u h⟩⟩
      | 2, _ => exact ⟨37, rfl, wo_pure rfl hok' rfl ⟨_, rfl, rfl, hsame (by decide), fun _ _ _ _ h => h⟩⟩
      | 3, _ =>
        obtain ⟨v0, h0, bq, rfl, hb⟩ := g 1 (by kernel_rfl) (by decide) _ rfl
        obtain ⟨v2, h2, rfl⟩ := g 2 (by kernel_rfl) (by decide) _ rfl
        exact ⟨38, rfl, wo_run rfl (by first | exact want_none | exact want_L rfl) rfl ((hok'.cons h0).cons h2) (r_ia rfl rfl (by omega) (by omega)) ⟨_, rfl, ⟨bq, by simp, hb⟩, hsame (by decide), fun _ _ _ _ h => h⟩⟩
      | 4, _ =>
        obtain ⟨v3, h3, bq, rfl, hb⟩ := g 3 (by kernel_rfl) (by decide) _ rfl
        exact ⟨39, rfl, wo_run rfl (by first | exact want_none | exact want_L rfl) rfl (hok'.cons h3) (r_load1 rfl ((hb.cell k).trans (strs_get lP k hk4))) ⟨_, rfl, ⟨_, getD_mem lP k hk4, rfl⟩, hsame (by decide), fun _ _ _ _ h => h⟩⟩
      | 5, _ => exact ⟨40, rfl, wo_pure rfl hok' rfl ⟨_, rfl, rfl, hsame (by decide), fun _ _ _ _ h => h⟩⟩
      | 6, _ =>
        obtain ⟨v7, h7, rfl⟩ := g 5 (by kernel_rfl) (by decide) _ rfl
        have hb13 : b.getD 9 false = false := by
          rcases h13 : b.getD 9 false with _ | _
          · rfl
          · skip
            have e0 := hcl 9 8 h13 (by kernel_rfl)
            have e1 := hcl 8 7 e0 (by kernel_rfl)
            have e2 := hcl 7 6 e1 (by kernel_rfl)
            rw [hbi] at e2; cases e2
        have hO := hOut hb13
        refine ⟨41, rfl, wo_call rfl (by first | exact want_none | exact want_L rfl) rfl (hok'.cons h7) rfl (full_calls hTy) ?_⟩
        rintro _ y' ⟨vK, kt, rfl, hK, hkok, hks, hT', hC'⟩
        exact ⟨_, rfl, _, rfl, ⟨kt, TreeOk.under hO (by omega) (Nat.le_refl _) hK.tree, hkok, hks⟩, hnx hT' hC' (by decide), fun j u _ _ h => GP.tp hTy hC' j u h⟩
      | 7, _ =>
        obtain ⟨v6, h6, s, hs, rfl⟩ := g 4 (by kernel_rfl) (by decide) _ rfl
        obtain ⟨v10, h10, kt, hk⟩ := g 6 (by kernel_rfl) (by decide) _ rfl
        obtain ⟨AK, cK, rfl, _⟩ := hk.form
        exact ⟨42, rfl, wo_run rfl (by first | exact want_none | exact want_L rfl) rfl ((hok'.cons h6).cons h10) (r_build' (cells := #[.string (bs s), nS, .string (bs []), nS, .slice AK kt.len cK]) rfl (by kernel_rfl)) ⟨_, rfl, ⟨s, hs, _, kt, rfl, hk⟩, hsame (by decide), fun _ _ _ _ h => h⟩⟩
      | 8, _ =>
        obtain ⟨v11, h11, s, hs, K, kt, rfl, hk⟩ := g 7 (by kernel_rfl) (by decide) _ rfl
        have hN := New.mk' y 38 (encM [mE s K])
        have hrd := RdS.art (x := ⟨s, [], []⟩) ⟨rfl, AtS.nil _, rfl, isSl_nil⟩ hk.1 hN
        obtain ⟨AK, cK, rfl, _⟩ := hk.form
        exact ⟨43, rfl, wo_run rfl (by first | exact want_none | exact want_L rfl) rfl (hok'.cons h11) (run_bsE (encM [mE s (.slice AK kt.len cK)]) rfl (by decide) (by decide) (by kernel_rfl)) ⟨_, rfl, ⟨s, hs, _, kt, hrd, hk.tp hTy (hN.chg.mono (fun _ _ h => h.elim))⟩, hnew hN.chg (by decide), fun j u _ _ h => GP.no hTy hN.chg j u h⟩⟩
      | 9, _ =>
        obtain ⟨v1, h1, rfl⟩ := g 0 (by kernel_rfl) (by decide) _ rfl
        obtain ⟨v12, h12, s, hs, K, kt, hr12, hk⟩ := g 8 (by kernel_rfl) (by decide) _ rfl
        have hO := hOut hbi
        refine ⟨44, rfl, wo_push rfl (by first | exact want_none | exact want_L rfl) ((hok'.cons h1).cons h12) rfl rfl hO hr12 hk hszy (by omega) (fun v' y' hO' hC' => ?_)⟩
        refine ⟨v', rfl, ⟨s, hs, kt, hO', hk.2⟩, ⟨hTy.own hO (by omega) hC', Chg.own hCy hO (Nat.le_refl _) hC', by have := hC'.size; omega, fun h => ?_⟩, fun j u hj hk' h => GP.own hO hC' j u hj hk' h⟩
        have h' : 9 < b.size := by rw [hbsz]; decide
        simp [h'] at h
    · intro b a y hL
      obtain ⟨hok', ⟨hTy, hCy, hszy, _⟩, hd⟩ := hL
      obtain ⟨v13, h13, g13⟩ := hd 9 (by decide) _ rfl
      obtain ⟨s, hs, kt, hO', hkok, hks⟩ := g13 (by decide)
      obtain ⟨A', c', rfl, hcc'⟩ := hO'.form
      rw [if_pos (by decide)]
      refine wo_pure rfl (hok'.cons h13) rfl ?_
      refine np_zk (e := (5, .slice A' (t.snoc ⟨s, [], []⟩ kt).len c') :: (44, .slice A' (t.snoc ⟨s, [], []⟩ kt).len c') :: [(0, .pointer (some ⟨bt, 0, none⟩)), (1, .int .i64 lv), (5, .slice A0 t.len c0), (6, .int .i64 (1 + (kn : Int))), (7, .int .i64 i), (8, .int .i64 k)]) ?_ ((hok'.cons h13).put 5 _ (by decide))
      iterate 2 (refine zk_norm_block ?_)
      exact zk_midX (.slice A' (t.snoc ⟨s, [], []⟩ kt).len c', t.snoc ⟨s, [], []⟩ kt) ⟨hO', AT.snoc_ok hok (hdN (lP_nm s hs)) hkok, by rw [AT.snoc_len, hlen], by rw [AT.snoc_size]; omega, hTy, hCy⟩ ⟨rfl, rfl, rfl, rfl, rfl, trivial⟩
  by_cases hk44 : k = 4
  · subst hk44
    refine zc_block ?_
    refine zc_seq ?_
    refine zc_region ?_
    refine zl_pureL rfl ?_
    refine z_cmpB (r := false) want_none (by decide) rfl rfl rfl (iff_of_false Bool.false_ne_true (by omega)) ?_
    refine zl_pureL rfl ?_
    refine zl_nil ?_
    refine zk_seq ?_
    refine zc_false rfl ?_
    refine zc_seq ?_
    refine zc_region ?_
    refine zl_pureL rfl ?_
    refine z_cmpB (r := true) want_none (by decide) rfl rfl rfl (iff_of_true rfl (by omega)) ?_
    refine zl_pureL rfl ?_
    refine zl_nil ?_
    refine zk_seq ?_
    refine zc_true rfl ?_
    refine zc_region ?_
    refine zl_pureL rfl ?_
    refine z_buildE #[.string (bs nHr), nS, .string (bs []), nS, nS] (by first | exact want_none | exact want_L rfl) (by decide) rfl (by kernel_rfl) ?_
    refine z_bsE (encM [mE nHr nS]) (by first | exact want_none | exact want_L rfl) (by decide) rfl (by decide) (by decide) (by kernel_rfl) (fun p1 pb hP => ?_)
    skip
    refine z_push (h := ⟨nHr, [], []⟩) (k := .nil) (m := mE nHr nS) (by first | exact want_none | exact want_L rfl) (by decide) rfl rfl hOa ⟨rfl, AtS.nil _, rfl, isSl_nil⟩ TreeOk.nil (by have := hCa.size; omega) hP (by omega) (fun p2 q2 hP2 hPC => ?_)
    have hPT := hTa.own hOa (by omega) hPC
    have hPW := Chg.own hCa hOa (Nat.le_refl _) hPC
    obtain ⟨pA, pc, hpv, _⟩ := hP2.form
    subst hpv
    refine zl_pureL rfl ?_
    refine zl_nil ?_
    iterate 2 (refine zk_norm_block ?_)
    exact zk_midX (.slice pA _ pc, t.snoc ⟨nHr, [], []⟩ .nil) ⟨hP2, AT.snoc_ok hok (hdN (by decide)) trivial, by rw [AT.snoc_len, hlen], by rw [AT.snoc_size]; simp only [AT.size]; omega, hPT, hPW⟩ ⟨rfl, rfl, rfl, rfl, rfl, trivial⟩
  by_cases hk5 : k = 5
  · subst hk5
    refine zc_block ?_
    refine zc_seq ?_
    refine zc_region ?_
    refine zl_pureL rfl ?_
    refine z_cmpB (r := false) want_none (by decide) rfl rfl rfl (iff_of_false Bool.false_ne_true (by omega)) ?_
    refine zl_pureL rfl ?_
    refine zl_nil ?_
    refine zk_seq ?_
    refine zc_false rfl ?_
    refine zc_seq ?_
    refine zc_region ?_
    refine zl_pureL rfl ?_
    refine z_cmpB (r := false) want_none (by decide) rfl rfl rfl (iff_of_false Bool.false_ne_true (by omega)) ?_
    refine zl_pureL rfl ?_
    refine zl_nil ?_
    refine zk_seq ?_
    refine zc_false rfl ?_
    refine zc_seq ?_
    refine zc_region ?_
    refine zl_pureL rfl ?_
    refine z_cmpB (r := true) want_none (by decide) rfl rfl rfl (iff_of_true rfl (by omega)) ?_
    refine zl_pureL rfl ?_
    refine zl_nil ?_
    refine zk_seq ?_
    refine zc_true rfl ?_
    refine zc_drawK 13 (GH bt 0 w.heap.size 1093 (.slice A0 t.len c0) t) killGH (fun b z' => Tp z' B bt ∧ Chg w z' (· = bt) ∧ w.heap.size ≤ z'.heap.size ∧ (b.getD 12 false = false → Out w.heap.size z' (.slice A0 t.len c0) t))
      [(0, .pointer (some ⟨bt, 0, none⟩)), (1, .int .i64 lv), (5, .slice A0 t.len c0), (6, .int .i64 (1 + (kn : Int))), (7, .int .i64 i), (8, .int .i64 ((5 : Nat) : Int))] (by rfl) (by kernel_rfl) (by kernel_rfl) ⟨rfl, rfl, rfl, rfl, rfl, rfl, trivial⟩ (fun z' hz _ => ⟨hTa.no hz, hCa.no hz, by have := hz.size; omega, fun _ => hOa.no hz⟩) ?_ (by decide) (fun _ => ⟨by kernel_rfl, by kernel_rfl⟩) ?_
    · intro i' hi' b a y hbsz hbi hcl hL
      obtain ⟨hok', ⟨hTy, hCy, hszy, hOut⟩, hd⟩ := hL
      have hstay : ∀ {j : Nat}, j ≠ 12 → (b.setIfInBounds j true).getD 12 false = false → b.getD 12 false = false := fun hj h => by rwa [gd_ne hj] at h
      have hnew : ∀ {y' : World}, Chg y y' No → ∀ {j : Nat}, j ≠ 12 → (Tp y' B bt ∧ Chg w y' (· = bt) ∧ w.heap.size ≤ y'.heap.size ∧ ((b.setIfInBounds j true).getD 12 false = false → Out w.heap.size y' (.slice A0 t.len c0) t)) := fun hy j hj => ⟨hTy.no hy, hCy.no hy, by have := hy.size; omega, fun h => (hOut (hstay hj h)).no hy⟩
      have hnx : ∀ {y' : World}, Tp y' B bt → Chg y y' (· = bt) → ∀ {j : Nat}, j ≠ 12 → (Tp y' B bt ∧ Chg w y' (· = bt) ∧ w.heap.size ≤ y'.heap.size ∧ ((b.setIfInBounds j true).getD 12 false = false → Out w.heap.size y' (.slice A0 t.len c0) t)) := fun hT' hy j hj => ⟨hT', hCy.trans hy (fun _ _ h => h), by have := hy.size; omega, fun h => (hOut (hstay hj h)).tp hTy hy⟩
      have hsame := fun {j : Nat} (hj : j ≠ 12) => hnew (Chg.refl y No) hj
      have g : ∀ j, waits _ i' j = true → (killGH j = i' ∨ 13 ≤ killGH j) → ∀ dj, dstOf _ j = some dj → ∃ v, a.tmps[dj]? = some v ∧ GH bt 0 w.heap.size 1093 (.slice A0 t.len c0) t j v y := fun j hw hk dj hdj => by
        obtain ⟨v, h1, h2⟩ := hd j hw dj hdj
        exact ⟨v, h1, h2 (fun hh => hh hk)⟩
      match i', hi' with
      | 0, _ => exact ⟨55, rfl, wo_pure rfl hok' rfl ⟨_, rfl, rfl, hsame (by decide), fun _ _ _ _ h => h⟩⟩
      | 1, _ => exact ⟨56, rfl, wo_pure rfl hok' rfl ⟨_, rfl, rfl, hsame (by decide), fun _ _ _ _ h => h⟩⟩
      | 2, _ =>
        obtain ⟨v1, h1, rfl⟩ := g 1 (by kernel_rfl) (by decide) _ rfl
        refine ⟨57, rfl, wo_call rfl (by first | exact want_none | exact want_L rfl) rfl (hok'.cons h1) rfl (next_calls hTy 5 (by decide) (by decide) rfl) ?_⟩
        rintro _ y' ⟨⟨k, hk, rfl⟩, hT', hC'⟩
        exact ⟨_, rfl, _, rfl, ⟨k, hk, rfl⟩, hnx hT' hC' (by decide), fun j u _ _ h => GH.tp hTy hC' j u h⟩
      | 3, _ =>
        obtain ⟨v1, h1, k, hk, rfl⟩ := g 2 (by kernel_rfl) (by decide) _ rfl
        exact ⟨58, rfl, wo_run rfl (by first | exact want_none | exact want_L rfl) rfl (hok'.cons h1) (r_add rfl rfl (by omega) (by omega)) ⟨_, rfl, ⟨k, hk, rfl⟩, hsame (by decide), fun _ _ _ _ h => h⟩⟩
      | 4, _ =>
        obtain ⟨v1, h1, k, hk, rfl⟩ := g 3 (by kernel_rfl) (by decide) _ rfl
        exact ⟨59, rfl, wo_run rfl (by first | exact want_none | exact want_L rfl) rfl (hok'.cons h1) (r_convI (j := (UInt8.ofNat (50 + k)).toNat) rfl (by rcases (by omega : k = 0 ∨ k = 1 ∨ k = 2 ∨ k = 3 ∨ k = 4) with rfl | rfl | rfl | rfl | rfl <;> rfl)) ⟨_, rfl, ⟨k, hk, rfl⟩, hsame (by decide), fun _ _ _ _ h => h⟩⟩
      | 5, _ =>
        obtain ⟨v1, h1, k, hk, rfl⟩ := g 4 (by kernel_rfl) (by decide) _ rfl
        have hN := New.mk' y 5 (cellsB [UInt8.ofNat (50 + k)])
        exact ⟨60, rfl, wo_run rfl (by first | exact want_none | exact want_L rfl) rfl (hok'.cons h1) (run_bs1 rfl (by rfl) (by rfl) (by decide) (by decide)) ⟨_, rfl, ⟨_, k, hk, rfl, hN.blk⟩, hnew hN.chg (by decide), fun j u _ _ h => GH.no hTy hN.chg j u h⟩⟩
      | 6, _ =>
        obtain ⟨v1, h1, bq, k, hk, rfl, hb⟩ := g 5 (by kernel_rfl) (by decide) _ rfl
        exact ⟨61, rfl, wo_run rfl (by first | exact want_none | exact want_L rfl) rfl (hok'.cons h1) (r_convBS (l := [UInt8.ofNat (50 + k)]) rfl (rb_of hb)) ⟨_, rfl, ⟨k, hk, rfl⟩, hsame (by decide), fun _ _ _ _ h => h⟩⟩
      | 7, _ =>
        obtain ⟨v1, h1, k, hk, rfl⟩ := g 6 (by kernel_rfl) (by decide) _ rfl
        exact ⟨62, rfl, wo_run rfl (by first | exact want_none | exact want_L rfl) rfl (hok'.cons h1) (r_catL (l := [104]) (r := [UInt8.ofNat (50 + k)]) rfl rfl (by simp only [List.length_cons, List.length_nil]; omega)) ⟨_, rfl, ⟨_, by rcases (by omega : k = 0 ∨ k = 1 ∨ k = 2 ∨ k = 3 ∨ k = 4) with rfl | rfl | rfl | rfl | rfl <;> decide, rfl⟩, hsame (by decide), fun _ _ _ _ h => h⟩⟩
      | 8, _ => exact ⟨63, rfl, wo_pure rfl hok' rfl ⟨_, rfl, rfl, hsame (by decide), fun _ _ _ _ h => h⟩⟩
      | 9, _ =>
        obtain ⟨v7, h7, rfl⟩ := g 8 (by kernel_rfl) (by decide) _ rfl
        have hb13 : b.getD 12 false = false := by
          rcases h13 : b.getD 12 false with _ | _
          · rfl
          · skip
            have e0 := hcl 12 11 h13 (by kernel_rfl)
            have e1 := hcl 11 10 e0 (by kernel_rfl)
            have e2 := hcl 10 9 e1 (by kernel_rfl)
            rw [hbi] at e2; cases e2
        have hO := hOut hb13
        refine ⟨64, rfl, wo_call rfl (by first | exact want_none | exact want_L rfl) rfl (hok'.cons h7) rfl (full_calls hTy) ?_⟩
        rintro _ y' ⟨vK, kt, rfl, hK, hkok, hks, hT', hC'⟩
        exact ⟨_, rfl, _, rfl, ⟨kt, TreeOk.under hO (by omega) (Nat.le_refl _) hK.tree, hkok, hks⟩, hnx hT' hC' (by decide), fun j u _ _ h => GH.tp hTy hC' j u h⟩
      | 10, _ =>
        obtain ⟨v6, h6, s, hs, rfl⟩ := g 7 (by kernel_rfl) (by decide) _ rfl
        obtain ⟨v10, h10, kt, hk⟩ := g 9 (by kernel_rfl) (by decide) _ rfl
        obtain ⟨AK, cK, rfl, _⟩ := hk.form
        exact ⟨65, rfl, wo_run rfl (by first | exact want_none | exact want_L rfl) rfl ((hok'.cons h6).cons h10) (r_build' (cells := #[.string (bs s), nS, .string (bs []), nS, .slice AK kt.len cK]) rfl (by kernel_rfl)) ⟨_, rfl, ⟨s, hs, _, kt, rfl, hk⟩, hsame (by decide), fun _ _ _ _ h => h⟩⟩
      | 11, _ =>
        obtain ⟨v11, h11, s, hs, K, kt, rfl, hk⟩ := g 10 (by kernel_rfl) (by decide) _ rfl
        have hN := New.mk' y 38 (encM [mE s K])
        have hrd := RdS.art (x := ⟨s, [], []⟩) ⟨rfl, AtS.nil _, rfl, isSl_nil⟩ hk.1 hN
        obtain ⟨AK, cK, rfl, _⟩ := hk.form
        exact ⟨66, rfl, wo_run rfl (by first | exact want_none | exact want_L rfl) rfl (hok'.cons h11) (run_bsE (encM [mE s (.slice AK kt.len cK)]) rfl (by decide) (by decide) (by kernel_rfl)) ⟨_, rfl, ⟨s, hs, _, kt, hrd, hk.tp hTy (hN.chg.mono (fun _ _ h => h.elim))⟩, hnew hN.chg (by decide), fun j u _ _ h => GH.no hTy hN.chg j u h⟩⟩
      | 12, _ =>
        obtain ⟨v1, h1, rfl⟩ := g 0 (by kernel_rfl) (by decide) _ rfl
        obtain ⟨v12, h12, s, hs, K, kt, hr12, hk⟩ := g 11 (by kernel_rfl) (by decide) _ rfl
        have hO := hOut hbi
        refine ⟨67, rfl, wo_push rfl (by first | exact want_none | exact want_L rfl) ((hok'.cons h1).cons h12) rfl rfl hO hr12 hk hszy (by omega) (fun v' y' hO' hC' => ?_)⟩
        refine ⟨v', rfl, ⟨s, hs, kt, hO', hk.2⟩, ⟨hTy.own hO (by omega) hC', Chg.own hCy hO (Nat.le_refl _) hC', by have := hC'.size; omega, fun h => ?_⟩, fun j u hj hk' h => GH.own hO hC' j u hj hk' h⟩
        have h' : 12 < b.size := by rw [hbsz]; decide
        simp [h'] at h
    · intro b a y hL
      obtain ⟨hok', ⟨hTy, hCy, hszy, _⟩, hd⟩ := hL
      obtain ⟨v13, h13, g13⟩ := hd 12 (by decide) _ rfl
      obtain ⟨s, hs, kt, hO', hkok, hks⟩ := g13 (by decide)
      obtain ⟨A', c', rfl, hcc'⟩ := hO'.form
      rw [if_pos (by decide)]
      refine wo_pure rfl (hok'.cons h13) rfl ?_
      refine np_zk (e := (5, .slice A' (t.snoc ⟨s, [], []⟩ kt).len c') :: (67, .slice A' (t.snoc ⟨s, [], []⟩ kt).len c') :: [(0, .pointer (some ⟨bt, 0, none⟩)), (1, .int .i64 lv), (5, .slice A0 t.len c0), (6, .int .i64 (1 + (kn : Int))), (7, .int .i64 i), (8, .int .i64 ((5 : Nat) : Int))]) ?_ ((hok'.cons h13).put 5 _ (by decide))
      iterate 2 (refine zk_norm_block ?_)
      exact zk_midX (.slice A' (t.snoc ⟨s, [], []⟩ kt).len c', t.snoc ⟨s, [], []⟩ kt) ⟨hO', AT.snoc_ok hok (hdN (lH_nm s hs)) hkok, by rw [AT.snoc_len, hlen], by rw [AT.snoc_size]; omega, hTy, hCy⟩ ⟨rfl, rfl, rfl, rfl, rfl, trivial⟩
  obtain ⟨d', rfl, hB1, hI1, hI2⟩ := hrec (by omega)
  have hz4 := blZ_ge d'
  have hzd : blZ (d' + 1) = 13 * blZ d' := rfl
  by_cases hk9 : k < 9
  · refine zc_block ?_
    refine zc_seq ?_
    refine zc_region ?_
    refine zl_pureL rfl ?_
    refine z_cmpB (r := false) want_none (by decide) rfl rfl rfl (iff_of_false Bool.false_ne_true (by omega)) ?_
    refine zl_pureL rfl ?_
    refine zl_nil ?_
    refine zk_seq ?_
    refine zc_false rfl ?_
    refine zc_seq ?_
    refine zc_region ?_
    refine zl_pureL rfl ?_
    refine z_cmpB (r := false) want_none (by decide) rfl rfl rfl (iff_of_false Bool.false_ne_true (by omega)) ?_
    refine zl_pureL rfl ?_
    refine zl_nil ?_
    refine zk_seq ?_
    refine zc_false rfl ?_
    refine zc_seq ?_
    refine zc_region ?_
    refine zl_pureL rfl ?_
    refine z_cmpB (r := false) want_none (by decide) rfl rfl rfl (iff_of_false Bool.false_ne_true (by omega)) ?_
    refine zl_pureL rfl ?_
    refine zl_nil ?_
    refine zk_seq ?_
    refine zc_false rfl ?_
    refine zc_seq ?_
    refine zc_region ?_
    refine zl_pureL rfl ?_
    refine z_cmpB (r := true) want_none (by decide) rfl rfl rfl (iff_of_true rfl (by omega)) ?_
    refine zl_pureL rfl ?_
    refine zl_nil ?_
    refine zk_seq ?_
    refine zc_true rfl ?_
    refine zc_seq ?_
    refine zc_region ?_
    refine z_bsE (strs lUl) (by first | exact want_none | exact want_L rfl) (by decide) rfl (by decide) (by decide) (by kernel_rfl) (fun y1 c1 hN1 => ?_)
    refine zl_pureL rfl ?_
    refine z_rem (by first | exact want_none | exact want_L rfl) (by decide) rfl rfl (by decide) ?_
    have e2 : (k : Int).tmod 2 = ((k % 2 : Nat) : Int) := by rw [Int.tmod_eq_emod_of_nonneg (by omega)]; omega
    rw [e2]
    have hk2 : k % 2 < 2 := by omega
    have hcl := (hN1.blk.cell (k % 2)).trans (strs_get lUl (k % 2) hk2)
    have hml := lUl_nm _ (getD_mem lUl (k % 2) hk2)
    generalize lUl.getD (k % 2) [] = nm at hcl hml
    refine z_ia (by first | exact want_none | exact want_L rfl) (by decide) rfl rfl (by omega) (by omega) ?_
    refine z_load1 (by first | exact want_none | exact want_L rfl) (by decide) rfl (cell_at hcl (by omega)) ?_
    refine z_buildE #[.string (bs nm), nS, .string (bs []), nS, nS] (by first | exact want_none | exact want_L rfl) (by decide) rfl (by kernel_rfl) ?_
    refine z_alloc (by first | exact want_none | exact want_L rfl) (by decide) (fun y2 b9 hN2 => ?_)
    have hb92 : Blk y2 b9 38 [.string ⟨#[]⟩, nS, .string ⟨#[]⟩, nS, nS] := hN2.blk
    refine z_store (by first | exact want_none | exact want_L rfl) rfl rfl rfl (by assumption) (by first | exact Nat.le_refl _ | simp [Value.cells]) (by simp [Value.cells, Value.oneCell']) (fun y3 hU3 => ?_)
    have hb93 : Blk y3 b9 38 [.string (bs nm), nS, .string (bs []), nS, nS] := hU3.blk
    have hX3 : Chg u1 y3 No := hN1.chg.no (hN2.chg.upd hU3 (hN2.ge (Chg.refl _ No)))
    have hb9ge : u1.heap.size ≤ b9 := by have := hN2.at_; have := hN1.chg.size; omega
    have hb9lt : b9 < y3.heap.size := hb93.lt
    have hs3 := hX3.size
    refine zl_nil ?_
    refine zk_seq ?_
    iterate 2 (refine zc_seq ?_)
    refine zc_region ?_
    refine zl_pureL rfl ?_
    refine zl_nil ?_
    refine zk_seq ?_
    refine zc_block ?_
    refine zc_loopW (ι := Nat × Value × AT) (fun q z => [(0, .pointer (some ⟨bt, 0, none⟩)), (1, .int .i64 lv), (5, .slice A0 t.len c0), (6, .int .i64 (1 + (kn : Int))), (7, .int .i64 i), (8, .int .i64 k), (9, .pointer (some ⟨b9, 0, none⟩)), (10, .int .i64 q.1)])
      (fun q z => q.1 ≤ 3 ∧ Out y3.heap.size z q.2.1 q.2.2 ∧ q.2.2.ok ∧ q.2.2.len = q.1 ∧ q.2.2.size ≤ q.1 * (1 + blZ d') ∧ Blk z b9 38 [.string (bs nm), nS, .string (bs []), nS, q.2.1] ∧ Tp z B bt ∧ Chg u1 z (· = bt) ∧ y3.heap.size ≤ z.heap.size) (fun q z => 4 - q.1) (0, nS, .nil)
      ⟨by decide, Out.nil, trivial, rfl, by simp [AT.size], hb93, hTa.no hX3, hX3.mono (fun _ _ h => h.elim), Nat.le_refl _⟩ ?_ ?_
    · exact ⟨rfl, rfl, rfl, rfl, rfl, rfl, rfl, rfl, trivial⟩
    rintro ⟨j, vE, tE⟩ z ⟨hj, hOE, hokE, hlenE, hszE, hb9z, hTz, hCz, hsz3⟩
    dsimp only at hj hOE hokE hlenE hszE hb9z hTz hCz hsz3 ⊢
    obtain ⟨AE, cE, hvE, hcE⟩ := hOE.form
    subst hvE
    iterate 2 (refine zc_seq ?_)
    refine zc_region ?_
    iterate 2 (refine zl_pureL rfl ?_)
    refine zl_call (by first | exact want_none | exact want_L rfl) rfl (by decide) rfl (next_calls hTz 3 (by decide) (by decide) rfl) ?_
    rintro _ z1 ⟨⟨nj, hnj, rfl⟩, hTz1, hXz1⟩
    refine ⟨_, rfl, ?_⟩
    have hOE1 := hOE.tp hTz hXz1
    have hb9z1 := keepT hTz hXz1 _ _ _ (by decide) hb9z
    have hCz1 : Chg u1 z1 (· = bt) := hCz.trans hXz1 (fun _ _ h => h)
    have hsz1 := hXz1.size
    have hownE : ∀ k, (Value.slice AE tE.len cE).ownBlock = some k → y3.heap.size ≤ k := fun k hk => by obtain ⟨ms, _, g2, _⟩ := hOE1; exact g2 k hk
    by_cases hle : j ≤ nj
    · refine z_cmpB (r := true) want_none (by decide) rfl rfl rfl (iff_of_true rfl (by omega)) ?_
      refine zl_nil ?_
      refine zk_seq ?_
      refine zc_true rfl ?_
      refine zc_skip ?_
      refine zk_seq ?_
      refine zc_seq ?_
      refine zc_block ?_
      refine zc_draw [10] (fun w' => Blk w' b9 38 [.string (bs nm), nS, .string (bs []), nS, .slice AE tE.len cE]) (.take 0 (.take 1 (.take 2 (.take 3 (.take 4 (.all1 5 (.take 6 (.all1 7 (.all1 8 (.take 9 (.last 10))))))))))) (by rfl) (by kernel_rfl) (by kernel_rfl) (fun z2 hZ2 _ => ⟨?_, ?_⟩)
      · exact hb9z1.no hZ2
      have hb9z2 := hb9z1.no hZ2
      have hTz2 := hTz1.no hZ2
      have hOE2 := hOE1.no hZ2
      have hCz2 : Chg u1 z2 (· = bt) := hCz1.no hZ2
      have hsz2 := hZ2.size
      refine zs_rdL rfl want_none rfl (by decide) (fun _ hS => r_fa rfl) ?_
      refine zs_rdL rfl want_none rfl (by decide) (fun _ hS => r_loadB rfl hS (by rfl)) ?_
      iterate 2 (refine zs_take rfl (zt_pure rfl ?_))
      refine zs_rdL rfl want_none rfl (by decide) (fun _ hS => r_add rfl rfl (by omega) (by omega)) ?_
      refine zs_call rfl (by first | exact want_none | exact want_L rfl) rfl (by decide) rfl (hI1 (li := lv + 1) hTz2 (by omega)) ?_
      rintro _ z3 ⟨vK, kt, rfl, hK, hkok, hks, hTz3, hXz3⟩
      have hb9z3 := keepT hTz2 hXz3 _ _ _ (by decide) hb9z2
      refine ⟨_, rfl, hb9z3, ?_⟩
      have hOE3 := hOE2.tp hTz2 hXz3
      have hCz3 : Chg u1 z3 (· = bt) := hCz2.trans hXz3 (fun _ _ h => h)
      have hsz3' := hXz3.size
      obtain ⟨AK, cK, rfl, _⟩ := hK.form
      have hk3 : KidOk z3 y3.heap.size (blZ d') (.slice AE tE.len cE) (.slice AK kt.len cK) kt := ⟨TreeOk.under hOE2 (by omega) (Nat.le_refl _) hK.tree, hkok, hks⟩
      refine zs_rdL rfl (by first | exact want_none | exact want_L rfl) rfl (by decide) (fun _ hS => r_build' (cells := #[.string (bs nLi), nS, .string (bs []), nS, .slice AK kt.len cK]) rfl (by kernel_rfl)) ?_
      refine zs_bsE (encM [mE nLi (.slice AK kt.len cK)]) rfl (by first | exact want_none | exact want_L rfl) (by decide) rfl (by decide) (by decide) (by kernel_rfl) (fun z4 cb hM4 => ?_)
      have hb9z4 := hb9z3.no hM4.chg
      refine ⟨hb9z4, ?_⟩
      have hr4 := RdS.art (x := ⟨nLi, [], []⟩) ⟨rfl, AtS.nil _, rfl, isSl_nil⟩ hk3.1 hM4
      have hlE := Out.len
      have hOE4 := hOE3.no hM4.chg
      have hTz4 := hTz3.no hM4.chg
      have hCz4 : Chg u1 z4 (· = bt) := hCz3.no hM4.chg
      have hsz4 := hM4.chg.size
      have hOE3' := hOE3
      obtain ⟨ms, g1, g2, g3⟩ := hOE3'
      have hms := Out.len _ g3
      refine zs_appendO rfl (by rfl) (by decide) (by first | exact want_none | exact want_L rfl) (by decide) rfl rfl (g1.no hM4.chg) hr4 (by omega) (by omega) (fun v5 z5 hO5 hX5 hr5 => ?_)
      have hP5 := Out.push g1 g2 g3 (m := mE nLi (.slice AK kt.len cK)) (x := ⟨nLi, [], []⟩) ⟨rfl, AtS.nil _, rfl, isSl_nil⟩ hk3.1 (by omega) hM4.chg hO5 hX5 hr5
      have hb9z5 := hb9z4.chg hX5 (fun he => by have := hownE _ he; omega)
      refine ⟨hb9z5, ?_⟩
      have hTz5 := hTz4.own hOE4 (by omega) hX5
      have hCz5 := Chg.own hCz4 hOE4 (by omega) hX5
      have hsz5 := hX5.size
      obtain ⟨A5, c5, rfl, _⟩ := hP5.form
      refine zs_rdL rfl want_none rfl (by decide) (fun _ hS => r_fa rfl) ?_
      refine zs_storeL rfl (by first | exact want_none | exact want_L rfl) rfl rfl rfl (by assumption) (by first | exact Nat.le_refl _ | simp [Value.cells]) (by simp [Value.cells, Value.oneCell']) (fun z6 hU6 => ?_)
      have hb9z6 : Blk z6 b9 38 [.string (bs nm), nS, .string (bs []), nS, .slice A5 (tE.snoc ⟨nLi, [], []⟩ kt).len c5] := hU6.blk
      have hO6 : Out y3.heap.size z6 (.slice A5 (tE.snoc ⟨nLi, [], []⟩ kt).len c5) (tE.snoc ⟨nLi, [], []⟩ kt) := hP5.chg hU6.chg (fun b' cells _ hb' he => by omega) (fun b' cells hb' he => hb'.ne hb9z5 (by decide) he)
      refine zk_norm_block ?_
      refine zk_seq ?_
      refine zc_region ?_
      refine zl_pureL rfl ?_
      refine z_add want_none (by decide) rfl rfl (by omega) (by omega) ?_
      refine zl_pureL rfl ?_
      refine zl_nil ?_
      refine zk_loopW (j + 1, .slice A5 (tE.snoc ⟨nLi, [], []⟩ kt).len c5, tE.snoc ⟨nLi, [], []⟩ kt) ⟨by omega, hO6, AT.snoc_ok hokE (hdN (by decide)) hkok, by rw [AT.snoc_len, hlenE], ?_, hb9z6, hTz5.oth hU6.chg (fun he => by omega) (fun k _ hk => by omega), hCz5.trans hU6.chg (fun k hk he => by omega), by have := hU6.chg.size; omega⟩ (by show 4 - (j + 1) < 4 - j; omega) ⟨rfl, rfl, rfl, rfl, rfl, rfl, rfl, get_int rfl (by simp), trivial⟩
      dsimp only
      rw [AT.snoc_size, Nat.add_mul, Nat.one_mul]; omega
    · have hszE3 : tE.size ≤ 3 * (1 + blZ d') := Nat.le_trans hszE (Nat.mul_le_mul_right _ hj)
      have hOaz := hOa.tp hTa hCz1
      have hCwz : Chg w z1 (· = bt) := hCa.trans hCz1 (fun _ _ h => h)
      have hkE : TreeOk z1 (fun b => w.heap.size ≤ b ∧ (Value.slice A0 t.len c0).ownBlock ≠ some b) (.slice AE tE.len cE) tE := TreeOk.under hOa (by omega) (by omega) hOE1.tree
      refine z_cmpB (r := false) want_none (by decide) rfl rfl rfl (iff_of_false Bool.false_ne_true (by omega)) ?_
      refine zl_nil ?_
      refine zk_seq ?_
      refine zc_false rfl ?_
      refine zc_exit ?_
      iterate 2 (refine zk_exit_then ?_)
      refine zk_exit_block ?_
      refine zk_seq ?_
      refine zc_region ?_
      refine zl_pureL rfl ?_
      refine z_loadAB want_none (by decide) rfl (by assumption) (by rfl) ?_
      refine z_bsE (encM [mE nm (.slice AE tE.len cE)]) (by first | exact want_none | exact want_L rfl) (by decide) rfl (by decide) (by decide) (by kernel_rfl) (fun p1 pb hP => ?_)
      skip
      refine z_push (h := ⟨nm, [], []⟩) (k := tE) (m := mE nm (.slice AE tE.len cE)) (by first | exact want_none | exact want_L rfl) (by decide) rfl rfl hOaz ⟨rfl, AtS.nil _, rfl, isSl_nil⟩ hkE (by have := hCwz.size; omega) hP (by omega) (fun p2 q2 hP2 hPC => ?_)
      have hPT := hTz1.own hOaz (by omega) hPC
      have hPW := Chg.own hCwz hOaz (Nat.le_refl _) hPC
      obtain ⟨pA, pc, hpv, _⟩ := hP2.form
      subst hpv
      refine zl_pureL rfl ?_
      refine zl_nil ?_
      iterate 2 (refine zk_norm_block ?_)
      exact zk_midX (.slice pA _ pc, t.snoc ⟨nm, [], []⟩ tE) ⟨hP2, AT.snoc_ok hok (hdN hml) hokE, by rw [AT.snoc_len, hlen], by rw [AT.snoc_size]; omega, hPT, hPW⟩ ⟨rfl, rfl, rfl, rfl, rfl, trivial⟩
  by_cases hk99 : k = 9
  · subst hk99
    refine zc_block ?_
    refine zc_seq ?_
    refine zc_region ?_
    refine zl_pureL rfl ?_
    refine z_cmpB (r := false) want_none (by decide) rfl rfl rfl (iff_of_false Bool.false_ne_true (by omega)) ?_
    refine zl_pureL rfl ?_
    refine zl_nil ?_
    refine zk_seq ?_
    refine zc_false rfl ?_
    refine zc_seq ?_
    refine zc_region ?_
    refine zl_pureL rfl ?_
    refine z_cmpB (r := false) want_none (by decide) rfl rfl rfl (iff_of_false Bool.false_ne_true (by omega)) ?_
    refine zl_pureL rfl ?_
    refine zl_nil ?_
    refine zk_seq ?_
    refine zc_false rfl ?_
    refine zc_seq ?_
    refine zc_region ?_
    refine zl_pureL rfl ?_
    refine z_cmpB (r := false) want_none (by decide) rfl rfl rfl (iff_of_false Bool.false_ne_true (by omega)) ?_
    refine zl_pureL rfl ?_
    refine zl_nil ?_
    refine zk_seq ?_
    refine zc_false rfl ?_
    refine zc_seq ?_
    refine zc_region ?_
    refine zl_pureL rfl ?_
    refine z_cmpB (r := false) want_none (by decide) rfl rfl rfl (iff_of_false Bool.false_ne_true (by omega)) ?_
    refine zl_pureL rfl ?_
    refine zl_nil ?_
    refine zk_seq ?_
    refine zc_false rfl ?_
    refine zc_seq ?_
    refine zc_region ?_
    refine zl_pureL rfl ?_
    refine z_cmpB (r := true) want_none (by decide) rfl rfl rfl (iff_of_true rfl (by omega)) ?_
    refine zl_pureL rfl ?_
    refine zl_nil ?_
    refine zk_seq ?_
    refine zc_true rfl ?_
    refine zc_seq ?_
    refine zc_region ?_
    iterate 2 (refine zl_pureL rfl ?_)
    refine z_add want_none (by decide) rfl rfl (by omega) (by omega) ?_
    refine zl_call (by first | exact want_none | exact want_L rfl) rfl (by decide) rfl (hB1 (li := lv + 1) hTa (by omega)) ?_
    rintro _ y1 ⟨vK, kt, rfl, hK, hkok, hks, hT1', hX1, _⟩
    refine ⟨_, rfl, ?_⟩
    obtain ⟨AK, cK, rfl, _⟩ := hK.form
    have hs1 := hX1.size
    have hO1 := hOa.tp hTa hX1
    have hC1' : Chg w y1 (· = bt) := hCa.trans hX1 (fun _ _ h => h)
    have hk1 : TreeOk y1 (fun b => w.heap.size ≤ b ∧ (Value.slice A0 t.len c0).ownBlock ≠ some b) (.slice AK kt.len cK) kt := TreeOk.under hOa (by omega) (Nat.le_refl _) hK.tree
    refine z_buildE #[.string (bs nBq), nS, .string (bs []), nS, .slice AK kt.len cK] (by first | exact want_none | exact want_L rfl) (by decide) rfl (by kernel_rfl) ?_
    refine z_alloc (by first | exact want_none | exact want_L rfl) (by decide) (fun y2 b9 hN2 => ?_)
    have hb92 : Blk y2 b9 38 [.string ⟨#[]⟩, nS, .string ⟨#[]⟩, nS, nS] := hN2.blk
    refine z_store (by first | exact want_none | exact want_L rfl) rfl rfl rfl (by assumption) (by first | exact Nat.le_refl _ | simp [Value.cells]) (by simp [Value.cells, Value.oneCell']) (fun y3 hU3 => ?_)
    have hb93 : Blk y3 b9 38 [.string (bs nBq), nS, .string (bs []), nS, .slice AK kt.len cK] := hU3.blk
    have hX3 : Chg y1 y3 No := hN2.chg.upd hU3 (hN2.ge (Chg.refl _ No))
    have hb9ge : y1.heap.size ≤ b9 := hN2.ge (Chg.refl _ No)
    have hT3 := hT1'.no hX3
    refine zl_nil ?_
    refine zk_seq ?_
    iterate 2 (refine zc_seq ?_)
    refine zc_region ?_
    refine zl_pureL rfl ?_
    refine zl_call (by first | exact want_none | exact want_L rfl) rfl (by decide) rfl (next_calls hT3 2 (by decide) (by decide) rfl) ?_
    rintro _ y4 ⟨⟨kc, hkc, rfl⟩, hT4, hX4⟩
    refine ⟨_, rfl, ?_⟩
    have hb94 := keepT hT3 hX4 _ _ _ (by decide) hb93
    have hX14 : Chg y1 y4 (· = bt) := (hX3.mono (S' := (· = bt)) (fun _ _ h => h.elim)).trans hX4 (fun _ _ h => h)
    by_cases hkc0 : kc = 0
    · subst hkc0
      refine z_cmpB (r := true) want_none (by decide) rfl rfl rfl (iff_of_true rfl (by omega)) ?_
      refine zl_nil ?_
      refine zk_seq ?_
      refine zc_true rfl ?_
      refine zc_region ?_
      refine z_buildE #[.string (bs [99, 105, 116, 101]), .string (bs sCite)] (by first | exact want_none | exact want_L rfl) (by decide) rfl (by kernel_rfl) ?_
      refine z_bsE (encA [([99, 105, 116, 101], sCite)]) (by first | exact want_none | exact want_L rfl) (by decide) rfl (by decide) (by decide) (by kernel_rfl) (fun y5 ba hA => ?_)
      have hA5 : AtS y5 (.slice (some ⟨ba, 0, none⟩) 1 1) [([99, 105, 116, 101], sCite)] := RdS.new hA rfl (encA_one _)
      have hb95 := hb94.no hA.chg
      have hT5 := hT4.no hA.chg
      refine z_fa want_none (by decide) rfl ?_
      refine z_store (by first | exact want_none | exact want_L rfl) rfl rfl rfl (by assumption) (by first | exact Nat.le_refl _ | simp [Value.cells]) (by simp [Value.cells, Value.oneCell']) (fun y6 hU6 => ?_)
      have hb96 : Blk y6 b9 38 [.string (bs nBq), .slice (some ⟨ba, 0, none⟩) 1 1, .string (bs []), nS, .slice AK kt.len cK] := hU6.blk
      have hX16 : Chg y1 y6 (· = bt) := (hX14.no hA.chg).trans hU6.chg (fun k hk he => by omega)
      have hO6 := hO1.tp hT1' hX16
      have hk6' := hk1.tp hT1' hX16
      have hT6 : Tp y6 B bt := hT5.oth hU6.chg (fun he => by have := hT1'.lt; omega) (fun k _ hk => by have := hT1'.lt; omega)
      have hC6 : Chg w y6 (· = bt) := hC1'.trans hX16 (fun _ _ h => h)
      have hA6 : AtS y6 (.slice (some ⟨ba, 0, none⟩) 1 1) [([99, 105, 116, 101], sCite)] := RdS.chg hA5 hU6.chg (fun b cells hb he => hb.ne hb95 (by decide) he)
      have hdQ : HdOk ⟨nBq, [([99, 105, 116, 101], sCite)], []⟩ := ⟨by decide, by decide, by decide, by decide⟩
      refine zl_nil ?_
      refine zk_seq ?_
      refine zc_region ?_
      refine zl_pureL rfl ?_
      refine z_loadAB want_none (by decide) rfl (by assumption) (by rfl) ?_
      refine z_bsE (encM [⟨nBq, .slice (some ⟨ba, 0, none⟩) 1 1, [], nS, .slice AK kt.len cK⟩]) (by first | exact want_none | exact want_L rfl) (by decide) rfl (by decide) (by decide) (by kernel_rfl) (fun p1 pb hP => ?_)
      skip
      refine z_push (h := ⟨nBq, [([99, 105, 116, 101], sCite)], []⟩) (k := kt) (m := ⟨nBq, .slice (some ⟨ba, 0, none⟩) 1 1, [], nS, .slice AK kt.len cK⟩) (by first | exact want_none | exact want_L rfl) (by decide) rfl rfl hO6 ⟨rfl, hA6, rfl, isSl_nil⟩ hk6' (by have := hC6.size; omega) hP (by omega) (fun p2 q2 hP2 hPC => ?_)
      have hPT := hT6.own hO6 (by omega) hPC
      have hPW := Chg.own hC6 hO6 (Nat.le_refl _) hPC
      obtain ⟨pA, pc, hpv, _⟩ := hP2.form
      subst hpv
      refine zl_pureL rfl ?_
      refine zl_nil ?_
      iterate 2 (refine zk_norm_block ?_)
      exact zk_midX (.slice pA _ pc, t.snoc ⟨nBq, [([99, 105, 116, 101], sCite)], []⟩ kt) ⟨hP2, AT.snoc_ok hok hdQ hkok, by rw [AT.snoc_len, hlen], by rw [AT.snoc_size]; omega, hPT, hPW⟩ ⟨rfl, rfl, rfl, rfl, rfl, trivial⟩
    · have hO4 := hO1.tp hT1' hX14
      have hk4' := hk1.tp hT1' hX14
      have hC4 : Chg w y4 (· = bt) := hC1'.trans hX14 (fun _ _ h => h)
      refine z_cmpB (r := false) want_none (by decide) rfl rfl rfl (iff_of_false Bool.false_ne_true (by omega)) ?_
      refine zl_nil ?_
      refine zk_seq ?_
      refine zc_false rfl ?_
      refine zc_skip ?_
      refine zk_seq ?_
      refine zc_region ?_
      refine zl_pureL rfl ?_
      refine z_loadAB want_none (by decide) rfl (by assumption) (by rfl) ?_
      refine z_bsE (encM [mE nBq (.slice AK kt.len cK)]) (by first | exact want_none | exact want_L rfl) (by decide) rfl (by decide) (by decide) (by kernel_rfl) (fun p1 pb hP => ?_)
      skip
      refine z_push (h := ⟨nBq, [], []⟩) (k := kt) (m := mE nBq (.slice AK kt.len cK)) (by first | exact want_none | exact want_L rfl) (by decide) rfl rfl hO4 ⟨rfl, AtS.nil _, rfl, isSl_nil⟩ hk4' (by have := hC4.size; omega) hP (by omega) (fun p2 q2 hP2 hPC => ?_)
      have hPT := hT4.own hO4 (by omega) hPC
      have hPW := Chg.own hC4 hO4 (Nat.le_refl _) hPC
      obtain ⟨pA, pc, hpv, _⟩ := hP2.form
      subst hpv
      refine zl_pureL rfl ?_
      refine zl_nil ?_
      iterate 2 (refine zk_norm_block ?_)
      exact zk_midX (.slice pA _ pc, t.snoc ⟨nBq, [], []⟩ kt) ⟨hP2, AT.snoc_ok hok (hdN (by decide)) hkok, by rw [AT.snoc_len, hlen], by rw [AT.snoc_size]; omega, hPT, hPW⟩ ⟨rfl, rfl, rfl, rfl, rfl, trivial⟩
  · refine zc_block ?_
    refine zc_seq ?_
    refine zc_region ?_
    refine zl_pureL rfl ?_
    refine z_cmpB (r := false) want_none (by decide) rfl rfl rfl (iff_of_false Bool.false_ne_true (by omega)) ?_
    refine zl_pureL rfl ?_
    refine zl_nil ?_
    refine zk_seq ?_
    refine zc_false rfl ?_
    refine zc_seq ?_
    refine zc_region ?_
    refine zl_pureL rfl ?_
    refine z_cmpB (r := false) want_none (by decide) rfl rfl rfl (iff_of_false Bool.false_ne_true (by omega)) ?_
    refine zl_pureL rfl ?_
    refine zl_nil ?_
    refine zk_seq ?_
    refine zc_false rfl ?_
    refine zc_seq ?_
    refine zc_region ?_
    refine zl_pureL rfl ?_
    refine z_cmpB (r := false) want_none (by decide) rfl rfl rfl (iff_of_false Bool.false_ne_true (by omega)) ?_
    refine zl_pureL rfl ?_
    refine zl_nil ?_
    refine zk_seq ?_
    refine zc_false rfl ?_
    refine zc_seq ?_
    refine zc_region ?_
    refine zl_pureL rfl ?_
    refine z_cmpB (r := false) want_none (by decide) rfl rfl rfl (iff_of_false Bool.false_ne_true (by omega)) ?_
    refine zl_pureL rfl ?_
    refine zl_nil ?_
    refine zk_seq ?_
    refine zc_false rfl ?_
    refine zc_seq ?_
    refine zc_region ?_
    refine zl_pureL rfl ?_
    refine z_cmpB (r := false) want_none (by decide) rfl rfl rfl (iff_of_false Bool.false_ne_true (by omega)) ?_
    refine zl_pureL rfl ?_
    refine zl_nil ?_
    refine zk_seq ?_
    refine zc_false rfl ?_
    refine zc_region ?_
    iterate 3 (refine zl_pureL rfl ?_)
    refine zl_call (by first | exact want_none | exact want_L rfl) rfl (by decide) rfl (table_calls (lv := lv) (by omega) hI2 (li := lv) hTa rfl (by omega)) ?_
    rintro _ y1 ⟨V, la, K, kt, rfl, hAl, hl3, hla, hK, hkok, hks, hT1', hX1⟩
    refine ⟨_, rfl, ?_⟩
    obtain ⟨AK, cK, rfl, _⟩ := hK.form
    obtain ⟨VA, vc, rfl, _⟩ := hAl.form
    have hO1 := hOa.tp hTa hX1
    have hC1' : Chg w y1 (· = bt) := hCa.trans hX1 (fun _ _ h => h)
    have hk1 : TreeOk y1 (fun b => w.heap.size ≤ b ∧ (Value.slice A0 t.len c0).ownBlock ≠ some b) (.slice AK kt.len cK) kt := TreeOk.under hOa (by omega) (Nat.le_refl _) hK
    have hdT : HdOk ⟨nTable, la, []⟩ := ⟨(by decide : nTable ∈ lNm), hl3, hla, (by decide : ([] : List UInt8) ∈ lTxs)⟩
    refine z_bsE (encM [⟨nTable, .slice VA la.length vc, [], nS, .slice AK kt.len cK⟩]) (by first | exact want_none | exact want_L rfl) (by decide) rfl (by decide) (by decide) (by kernel_rfl) (fun p1 pb hP => ?_)
    skip
    refine z_push (h := ⟨nTable, la, []⟩) (k := kt) (m := ⟨nTable, .slice VA la.length vc, [], nS, .slice AK kt.len cK⟩) (by first | exact want_none | exact want_L rfl) (by decide) rfl rfl hO1 ⟨rfl, hAl, rfl, isSl_nil⟩ hk1 (by have := hC1'.size; omega) hP (by omega) (fun p2 q2 hP2 hPC => ?_)
    have hPT := hT1'.own hO1 (by omega) hPC
    have hPW := Chg.own hC1' hO1 (Nat.le_refl _) hPC
    obtain ⟨pA, pc, hpv, _⟩ := hP2.form
    subst hpv
    refine zl_pureL rfl ?_
    refine zl_nil ?_
    iterate 2 (refine zk_norm_block ?_)
    exact zk_midX (.slice pA _ pc, t.snoc ⟨nTable, la, []⟩ kt) ⟨hP2, AT.snoc_ok hok hdT hkok, by rw [AT.snoc_len, hlen], by rw [AT.snoc_size]; omega, hPT, hPW⟩ ⟨rfl, rfl, rfl, rfl, rfl, trivial⟩
end Go.Proofs.Ytbcmiijollpgeaa.T
