import Derived.Test.YtbcmiijollpgeaaPKnown
/- Of these articles just these texts come: the walk of PrintKnown. -/
namespace Go.Proofs.Ytbcmiijollpgeaa.T
open Go Go.Z Go.Proofs
set_option linter.unusedVariables false
theorem tmod_emod (a : Int) (n : Nat) (hn : 0 < n) : (0 ≤ a.tmod n ∧ a.tmod n = a % n ∧ a.tmod n < n) ∨ (a.tmod n < 0 ∧ a.tmod n + n = a % n ∧ -(n : Int) < a.tmod n) := by
  have h1 := Int.emod_nonneg a (show (n : Int) ≠ 0 by omega)
  have h2 := Int.emod_lt_of_pos a (show (0 : Int) < n by omega)
  have h3 := Int.tmod_lt_of_pos a (show (0 : Int) < n by omega)
  have h4 : -(n : Int) < a.tmod n := by
    have := Int.tmod_lt_of_pos (-a) (show (0 : Int) < n by omega)
    rw [Int.neg_tmod] at this; omega
  have h5 : ((n : Int)) ∣ (a % n - a.tmod n) := by
    have e1 := Int.emod_add_mul_ediv a n
    have e2 := Int.tmod_add_mul_tdiv a n
    refine ⟨a.tdiv n - a / n, ?_⟩
    rw [Int.mul_sub]; omega
  obtain ⟨q, hq⟩ := h5
  have hq0 : -1 < q := by
    apply Int.lt_of_not_ge; intro hge
    have : (n : Int) * q ≤ (n : Int) * (-1) := Int.mul_le_mul_of_nonneg_left hge (by omega)
    omega
  have hq1 : q < 2 := by
    apply Int.lt_of_not_ge; intro hge
    have : (n : Int) * 2 ≤ (n : Int) * q := Int.mul_le_mul_of_nonneg_left hge (by omega)
    omega
  have : q = 0 ∨ q = 1 := by omega
  rcases this with rfl | rfl
  · left; omega
  · right; omega
theorem within_calls {w : World} {a : Int} {n : Nat} (hn : 0 < n) (hn2 : n ≤ 1000000000) :
    Calls Try.prog 20 [.int .i64 a, .int .i64 n].toArray w fun e w' => e = .returned (.int .i64 (a % n)) ∧ w' = w := by
  have hm := tmod_emod a n hn
  refine calls_zc (n := 15) (f := 20) (fn := Try.f20) Try.func20 rfl rfl (by simp) ?_
  refine zc_seq ?_
  refine zc_region ?_
  refine zl_pureL rfl ?_
  refine zl_nil ?_
  refine zk_seq ?_
  refine zc_seq ?_
  refine zc_region ?_
  iterate 2 (refine zl_pureL rfl ?_)
  refine z_rem (by first | exact want_none | exact want_L rfl) (by decide) rfl rfl (by omega) ?_
  refine zl_pureL rfl ?_
  refine zl_nil ?_
  refine zk_seq ?_
  iterate 2 (refine zc_seq ?_)
  refine zc_region ?_
  refine zl_pureL rfl ?_
  rcases hm with ⟨h1, h2, h3⟩ | ⟨h1, h2, h3⟩
  · refine z_cmpB (r := false) want_none (by decide) rfl rfl rfl (iff_of_false Bool.false_ne_true (by omega)) ?_
    refine zl_nil ?_
    refine zk_seq ?_
    refine zc_false rfl ?_
    refine zc_skip ?_
    refine zk_seq ?_
    refine zc_seq ?_
    refine zc_region ?_
    iterate 2 (refine zl_pureL rfl ?_)
    refine zl_nil ?_
    refine zk_seq ?_
    refine zc_ret ?_
    exact zk_ret1 (.inr rfl) rfl rfl ⟨by rw [h2], rfl⟩
  · refine z_cmpB (r := true) want_none (by decide) rfl rfl rfl (iff_of_true rfl (by omega)) ?_
    refine zl_nil ?_
    refine zk_seq ?_
    refine zc_true rfl ?_
    refine zc_region ?_
    iterate 2 (refine zl_pureL rfl ?_)
    refine z_add want_none (by decide) rfl rfl (by omega) (by omega) ?_
    refine zl_pureL rfl ?_
    refine zl_nil ?_
    refine zk_seq ?_
    refine zc_seq ?_
    refine zc_region ?_
    iterate 2 (refine zl_pureL rfl ?_)
    refine zl_nil ?_
    refine zk_seq ?_
    refine zc_ret ?_
    exact zk_ret1 (.inr rfl) rfl rfl ⟨by rw [h2], rfl⟩
def sX : List UInt8 := [10, 120]
def sP : List UInt8 := [112]
def sEm : List UInt8 := [101, 109]
def sScript : List UInt8 := [115, 99, 114, 105, 112, 116]
def sLt : List UInt8 := [60]
def sNb : List UInt8 := [194, 160, 38, 34]
def knT : Nat → AT
  | 1 => aN nPre (aT sX)
  | 2 => aN sP (aT sX)
  | 3 => aN nPre (aN sEm (aT sX))
  | 4 => aN nBr (aT sX)
  | 5 => aN sScript (aT sLt)
  | 6 => aT sNb
  | _ => .nil
def knO : Nat → List UInt8
  | 1 => [60, 112, 114, 101, 62, 10, 10, 120, 60, 47, 112, 114, 101, 62]
  | 2 => [60, 112, 62, 10, 120, 60, 47, 112, 62]
  | 3 => [60, 112, 114, 101, 62, 60, 101, 109, 62, 10, 120, 60, 47, 101, 109, 62, 60, 47, 112, 114, 101, 62]
  | 4 => [60, 98, 114, 62]
  | 5 => [60, 115, 99, 114, 105, 112, 116, 62, 38, 108, 116, 59, 60, 47, 115, 99, 114, 105, 112, 116, 62]
  | 6 => [38, 110, 98, 115, 112, 59, 38, 97, 109, 112, 59, 34]
  | _ => []
def knOV : List Value := [.string (bs (knO 0)), .string (bs (knO 1)), .string (bs (knO 2)), .string (bs (knO 3)), .string (bs (knO 4)), .string (bs (knO 5)), .string (bs (knO 6))]
def knV (v1 v2 v3 v4 v5 v6 : Value) : List Value := [nS, v1, v2, v3, v4, v5, v6]
theorem knOV_get : ∀ i, i < 7 → knOV[i]? = some (.string (bs (knO i))) := by
  intro i hi
  match i, hi with
  | 0, _ | 1, _ | 2, _ | 3, _ | 4, _ | 5, _ | 6, _ => rfl
theorem kn_text : ∀ i, i < 7 → (knT i).text = knO i ∧ (knT i).wt ≤ big := by
  intro i hi
  match i, hi with
  | 0, _ | 1, _ | 2, _ | 3, _ | 4, _ | 5, _ | 6, _ => exact ⟨by decide, by decide⟩
theorem kn_all {w : World} {v1 v2 v3 v4 v5 v6 : Value} (h1 : TreeAt true w v1 (knT 1)) (h2 : TreeAt true w v2 (knT 2)) (h3 : TreeAt true w v3 (knT 3)) (h4 : TreeAt true w v4 (knT 4)) (h5 : TreeAt true w v5 (knT 5)) (h6 : TreeAt true w v6 (knT 6)) :
    ∀ i, i < 7 → ∃ v, (knV v1 v2 v3 v4 v5 v6)[i]? = some v ∧ TreeAt true w v (knT i) := by
  intro i hi
  match i, hi with
  | 0, _ => exact ⟨_, rfl, TreeAt.nil⟩
  | 1, _ => exact ⟨_, rfl, h1⟩
  | 2, _ => exact ⟨_, rfl, h2⟩
  | 3, _ => exact ⟨_, rfl, h3⟩
  | 4, _ => exact ⟨_, rfl, h4⟩
  | 5, _ => exact ⟨_, rfl, h5⟩
  | 6, _ => exact ⟨_, rfl, h6⟩
set_option maxRecDepth 100000 in
set_option maxHeartbeats 16000000 in
theorem PrintKnown_walk (k : Int) (w : World) : Calls Try.prog 6 #[.int .i64 k] w fun e w' => e = .returned (.bool true) ∧ RowKit.Below w.heap.size w w' := by
  show Calls Try.prog 6 [Value.int .i64 k].toArray w _
  obtain ⟨i, hi⟩ := Int.eq_ofNat_of_zero_le (Int.emod_nonneg k (show ((7 : Nat) : Int) ≠ 0 by decide))
  have hi10 : i < 7 := by have := Int.emod_lt_of_pos k (show (0 : Int) < ((7 : Nat) : Int) by decide); omega
  refine calls_zc (n := 51) (f := 6) (fn := Try.f6) Try.func6 rfl rfl (by simp) ?_
  refine zc_seq ?_
  refine zc_region ?_
  refine zl_pureL rfl ?_
  refine zl_nil ?_
  refine zk_seq ?_
  refine zc_seq ?_
  refine zc_region ?_
  refine z_buildE #[.string (bs []), nS, .string (bs sX), nS, nS] (by first | exact want_none | exact want_L rfl) (by decide) rfl (by kernel_rfl) ?_
  refine z_alloc (by first | exact want_none | exact want_L rfl) (by decide) (fun w1 b1 hN1 => ?_)
  have hb1 : Blk w1 b1 38 [.string ⟨#[]⟩, nS, .string ⟨#[]⟩, nS, nS] := hN1.blk
  refine z_store (by first | exact want_none | exact want_L rfl) rfl rfl rfl (by assumption) (by first | exact Nat.le_refl _ | simp [Value.cells]) (by simp [Value.cells, Value.oneCell']) (fun u0 hU2 => ?_)
  have hb : Blk u0 b1 38 [.string (bs []), nS, .string (bs sX), nS, nS] := hU2.blk
  have hC : Chg w u0 No := hN1.chg.upd hU2 (hN1.ge (Chg.refl _ No))
  refine zl_nil ?_
  refine zk_seq ?_
  refine zc_seq ?_
  refine zc_region ?_
  refine z_loadAB want_none (by decide) rfl (by assumption) (by rfl) ?_
  refine z_bsE (encM [⟨[], nS, sX, nS, nS⟩]) (by first | exact want_none | exact want_L rfl) (by decide) rfl (by decide) (by decide) (by kernel_rfl) (fun u1 c1 hM1 => ?_)
  have k1 : TreeAt true u1 (.slice (some ⟨c1, 0, none⟩) 1 1) (aT sX) := tree_new hM1 ((rows_cons (nm := []) (tx := sX) (AttrS.nil _) TreeAt.nil rows_nil))
  have hb := hb.no hM1.chg
  have hC := hC.no hM1.chg
  skip
  refine z_buildE #[.string (bs nPre), nS, .string (bs []), nS, .slice (some ⟨c1, 0, none⟩) 1 1] (by first | exact want_none | exact want_L rfl) (by decide) rfl (by kernel_rfl) ?_
  refine z_bsE (encM [⟨nPre, nS, [], nS, .slice (some ⟨c1, 0, none⟩) 1 1⟩]) (by first | exact want_none | exact want_L rfl) (by decide) rfl (by decide) (by decide) (by kernel_rfl) (fun u2 c2 hM2 => ?_)
  have t1 : TreeAt true u2 (.slice (some ⟨c2, 0, none⟩) 1 1) (knT 1) := tree_new hM2 (rows_cons (nm := nPre) (tx := []) (AttrS.nil _) k1 rows_nil)
  have hb := hb.no hM2.chg
  have hC := hC.no hM2.chg
  refine z_loadAB want_none (by decide) rfl (by assumption) (by rfl) ?_
  refine z_bsE (encM [⟨[], nS, sX, nS, nS⟩]) (by first | exact want_none | exact want_L rfl) (by decide) rfl (by decide) (by decide) (by kernel_rfl) (fun u3 c3 hM3 => ?_)
  have k2 : TreeAt true u3 (.slice (some ⟨c3, 0, none⟩) 1 1) (aT sX) := tree_new hM3 ((rows_cons (nm := []) (tx := sX) (AttrS.nil _) TreeAt.nil rows_nil))
  have hb := hb.no hM3.chg
  have hC := hC.no hM3.chg
  have t1 := t1.no hM3.chg
  skip
  refine z_buildE #[.string (bs sP), nS, .string (bs []), nS, .slice (some ⟨c3, 0, none⟩) 1 1] (by first | exact want_none | exact want_L rfl) (by decide) rfl (by kernel_rfl) ?_
  refine z_bsE (encM [⟨sP, nS, [], nS, .slice (some ⟨c3, 0, none⟩) 1 1⟩]) (by first | exact want_none | exact want_L rfl) (by decide) rfl (by decide) (by decide) (by kernel_rfl) (fun u4 c4 hM4 => ?_)
  have t2 : TreeAt true u4 (.slice (some ⟨c4, 0, none⟩) 1 1) (knT 2) := tree_new hM4 (rows_cons (nm := sP) (tx := []) (AttrS.nil _) k2 rows_nil)
  have hb := hb.no hM4.chg
  have hC := hC.no hM4.chg
  have t1 := t1.no hM4.chg
  refine z_loadAB want_none (by decide) rfl (by assumption) (by rfl) ?_
  refine z_bsE (encM [⟨[], nS, sX, nS, nS⟩]) (by first | exact want_none | exact want_L rfl) (by decide) rfl (by decide) (by decide) (by kernel_rfl) (fun u5 c5 hM5 => ?_)
  have k3 : TreeAt true u5 (.slice (some ⟨c5, 0, none⟩) 1 1) (aT sX) := tree_new hM5 ((rows_cons (nm := []) (tx := sX) (AttrS.nil _) TreeAt.nil rows_nil))
  have hb := hb.no hM5.chg
  have hC := hC.no hM5.chg
  have t1 := t1.no hM5.chg
  have t2 := t2.no hM5.chg
  skip
  refine z_buildE #[.string (bs sEm), nS, .string (bs []), nS, .slice (some ⟨c5, 0, none⟩) 1 1] (by first | exact want_none | exact want_L rfl) (by decide) rfl (by kernel_rfl) ?_
  refine z_bsE (encM [⟨sEm, nS, [], nS, .slice (some ⟨c5, 0, none⟩) 1 1⟩]) (by first | exact want_none | exact want_L rfl) (by decide) rfl (by decide) (by decide) (by kernel_rfl) (fun u6 c6 hM6 => ?_)
  have k4 : TreeAt true u6 (.slice (some ⟨c6, 0, none⟩) 1 1) (aN sEm (aT sX)) := tree_new hM6 (rows_cons (nm := sEm) (tx := []) (AttrS.nil _) k3 rows_nil)
  have hb := hb.no hM6.chg
  have hC := hC.no hM6.chg
  have t1 := t1.no hM6.chg
  have t2 := t2.no hM6.chg
  skip
  refine z_buildE #[.string (bs nPre), nS, .string (bs []), nS, .slice (some ⟨c6, 0, none⟩) 1 1] (by first | exact want_none | exact want_L rfl) (by decide) rfl (by kernel_rfl) ?_
  refine z_bsE (encM [⟨nPre, nS, [], nS, .slice (some ⟨c6, 0, none⟩) 1 1⟩]) (by first | exact want_none | exact want_L rfl) (by decide) rfl (by decide) (by decide) (by kernel_rfl) (fun u7 c7 hM7 => ?_)
  have t3 : TreeAt true u7 (.slice (some ⟨c7, 0, none⟩) 1 1) (knT 3) := tree_new hM7 (rows_cons (nm := nPre) (tx := []) (AttrS.nil _) k4 rows_nil)
  have hb := hb.no hM7.chg
  have hC := hC.no hM7.chg
  have t1 := t1.no hM7.chg
  have t2 := t2.no hM7.chg
  refine z_loadAB want_none (by decide) rfl (by assumption) (by rfl) ?_
  refine z_bsE (encM [⟨[], nS, sX, nS, nS⟩]) (by first | exact want_none | exact want_L rfl) (by decide) rfl (by decide) (by decide) (by kernel_rfl) (fun u8 c8 hM8 => ?_)
  have k5 : TreeAt true u8 (.slice (some ⟨c8, 0, none⟩) 1 1) (aT sX) := tree_new hM8 ((rows_cons (nm := []) (tx := sX) (AttrS.nil _) TreeAt.nil rows_nil))
  have hb := hb.no hM8.chg
  have hC := hC.no hM8.chg
  have t1 := t1.no hM8.chg
  have t2 := t2.no hM8.chg
  have t3 := t3.no hM8.chg
  skip
  refine z_buildE #[.string (bs nBr), nS, .string (bs []), nS, .slice (some ⟨c8, 0, none⟩) 1 1] (by first | exact want_none | exact want_L rfl) (by decide) rfl (by kernel_rfl) ?_
  refine z_bsE (encM [⟨nBr, nS, [], nS, .slice (some ⟨c8, 0, none⟩) 1 1⟩]) (by first | exact want_none | exact want_L rfl) (by decide) rfl (by decide) (by decide) (by kernel_rfl) (fun u9 c9 hM9 => ?_)
  have t4 : TreeAt true u9 (.slice (some ⟨c9, 0, none⟩) 1 1) (knT 4) := tree_new hM9 (rows_cons (nm := nBr) (tx := []) (AttrS.nil _) k5 rows_nil)
  have hb := hb.no hM9.chg
  have hC := hC.no hM9.chg
  have t1 := t1.no hM9.chg
  have t2 := t2.no hM9.chg
  have t3 := t3.no hM9.chg
  skip
  refine z_buildE #[.string (bs []), nS, .string (bs sLt), nS, nS] (by first | exact want_none | exact want_L rfl) (by decide) rfl (by kernel_rfl) ?_
  skip
  refine z_bsE (encM [⟨[], nS, sLt, nS, nS⟩]) (by first | exact want_none | exact want_L rfl) (by decide) rfl (by decide) (by decide) (by kernel_rfl) (fun u10 c10 hM10 => ?_)
  have k6 : TreeAt true u10 (.slice (some ⟨c10, 0, none⟩) 1 1) (aT sLt) := tree_new hM10 ((rows_cons (nm := []) (tx := sLt) (AttrS.nil _) TreeAt.nil rows_nil))
  have hb := hb.no hM10.chg
  have hC := hC.no hM10.chg
  have t1 := t1.no hM10.chg
  have t2 := t2.no hM10.chg
  have t3 := t3.no hM10.chg
  have t4 := t4.no hM10.chg
  skip
  refine z_buildE #[.string (bs sScript), nS, .string (bs []), nS, .slice (some ⟨c10, 0, none⟩) 1 1] (by first | exact want_none | exact want_L rfl) (by decide) rfl (by kernel_rfl) ?_
  refine z_bsE (encM [⟨sScript, nS, [], nS, .slice (some ⟨c10, 0, none⟩) 1 1⟩]) (by first | exact want_none | exact want_L rfl) (by decide) rfl (by decide) (by decide) (by kernel_rfl) (fun u11 c11 hM11 => ?_)
  have t5 : TreeAt true u11 (.slice (some ⟨c11, 0, none⟩) 1 1) (knT 5) := tree_new hM11 (rows_cons (nm := sScript) (tx := []) (AttrS.nil _) k6 rows_nil)
  have hb := hb.no hM11.chg
  have hC := hC.no hM11.chg
  have t1 := t1.no hM11.chg
  have t2 := t2.no hM11.chg
  have t3 := t3.no hM11.chg
  have t4 := t4.no hM11.chg
  skip
  refine z_buildE #[.string (bs []), nS, .string (bs sNb), nS, nS] (by first | exact want_none | exact want_L rfl) (by decide) rfl (by kernel_rfl) ?_
  skip
  refine z_bsE (encM [⟨[], nS, sNb, nS, nS⟩]) (by first | exact want_none | exact want_L rfl) (by decide) rfl (by decide) (by decide) (by kernel_rfl) (fun u12 c12 hM12 => ?_)
  have t6 : TreeAt true u12 (.slice (some ⟨c12, 0, none⟩) 1 1) (knT 6) := tree_new hM12 ((rows_cons (nm := []) (tx := sNb) (AttrS.nil _) TreeAt.nil rows_nil))
  have hb := hb.no hM12.chg
  have hC := hC.no hM12.chg
  have t1 := t1.no hM12.chg
  have t2 := t2.no hM12.chg
  have t3 := t3.no hM12.chg
  have t4 := t4.no hM12.chg
  have t5 := t5.no hM12.chg
  skip
  refine z_bsE (knV (.slice (some ⟨c2, 0, none⟩) 1 1) (.slice (some ⟨c4, 0, none⟩) 1 1) (.slice (some ⟨c7, 0, none⟩) 1 1) (.slice (some ⟨c9, 0, none⟩) 1 1) (.slice (some ⟨c11, 0, none⟩) 1 1) (.slice (some ⟨c12, 0, none⟩) 1 1)) (by first | exact want_none | exact want_L rfl) (by decide) rfl (by decide) (by decide) (by kernel_rfl) (fun v1 d1 hG1 => ?_)
  refine zl_pureL rfl ?_
  refine zl_nil ?_
  refine zk_seq ?_
  refine zc_seq ?_
  refine zc_region ?_
  refine z_bsE knOV (by first | exact want_none | exact want_L rfl) (by decide) rfl (by decide) (by decide) (by kernel_rfl) (fun v2 d2 hG2 => ?_)
  obtain ⟨v, hv, ht⟩ := kn_all t1 t2 t3 t4 t5 t6 i hi10
  have hCx : Chg u12 v2 No := hG1.chg.no hG2.chg
  have ht := ht.no hCx
  have g1 : v2.cell? ⟨d1, 0 + i, none⟩ = some v := by rw [Nat.zero_add]; exact ((hG1.blk.no hG2.chg).cell i).trans hv
  have g2 : v2.cell? ⟨d2, 0 + i, none⟩ = some (.string (bs (knO i))) := by rw [Nat.zero_add]; exact (hG2.blk.cell i).trans (knOV_get i hi10)
  have hCz := hC.no hCx
  obtain ⟨htx, hwt⟩ := kn_text i hi10
  obtain ⟨A0, c0, hv0, _⟩ := ht.form
  subst hv0
  refine zl_pureL rfl ?_
  refine zl_nil ?_
  refine zk_seq ?_
  refine zc_seq ?_
  refine zc_region ?_
  iterate 2 (refine zl_pureL rfl ?_)
  refine z_len want_none (by decide) rfl ?_
  refine zl_call (by first | exact want_none | exact want_L rfl) rfl (by decide) rfl (within_calls (n := 7) (by decide) (by decide)) ?_
  rintro _ u ⟨rfl, hu⟩
  obtain rfl := hu.symm
  refine ⟨_, rfl, ?_⟩
  rw [hi]
  refine zl_pureL rfl ?_
  refine zl_nil ?_
  refine zk_seq ?_
  refine zc_seq ?_
  refine zc_draw [] (fun w' => Chg v2 w' No) (.all1 0 (.take 1 (.take 2 (.take 3 (.take 4 (.take 5 (.take 7 (.take 8 (.take 9 (.take 10 (.all1 6 (.take 11 (.take 12 (.take 13 (.fin))))))))))))))) (by rfl) (by kernel_rfl) (by kernel_rfl) (fun z1 hD1 _ => ⟨?_, ?_⟩)
  · exact hD1
  skip
  refine zs_call rfl (by first | exact want_none | exact want_L rfl) rfl (by decide) rfl known_calls ?_
  rintro _ z2 ⟨rfl, hD2⟩
  have hD2 := hD1.no hD2
  refine ⟨_, rfl, hD2, ?_⟩
  iterate 3 (refine zs_take rfl (zt_pure rfl ?_))
  refine zs_rdL rfl (want_L rfl) rfl (by decide) (fun _ hS => r_ia rfl rfl (by omega) (by omega)) ?_
  refine zs_rdL rfl (by first | exact want_none | exact want_L rfl) rfl (by decide) (fun _ hS => r_load1 rfl (cell_at (cell_keep hS g1) (by omega))) ?_
  iterate 2 (refine zs_take rfl (zt_pure rfl ?_))
  refine zs_rdL rfl (want_L rfl) rfl (by decide) (fun _ hS => r_ia rfl rfl (by omega) (by omega)) ?_
  refine zs_rdL rfl (by first | exact want_none | exact want_L rfl) rfl (by decide) (fun _ hS => r_load1 rfl (cell_at (cell_keep hS g2) (by omega))) ?_
  skip
  refine zs_call rfl (by first | exact want_none | exact want_L rfl) rfl (by decide) rfl (text_calls (ht.no hD2).weak hwt) ?_
  rintro _ z3 ⟨rfl, hD3⟩
  have hD3 := hD2.no hD3
  refine ⟨_, rfl, hD3, ?_⟩
  skip
  refine zs_rdL rfl (by first | exact want_none | exact want_L rfl) rfl (by decide) (fun _ hS => r_eqL (q := true) rfl rfl (iff_of_true rfl htx)) ?_
  iterate 2 (refine zs_take rfl (zt_pure rfl ?_))
  refine zs_fin ?_
  refine zk_seq ?_
  refine zc_ret ?_
  exact zk_ret1 (.inr rfl) rfl rfl ⟨rfl, (hCz.no hD3).below⟩
end Go.Proofs.Ytbcmiijollpgeaa.T
