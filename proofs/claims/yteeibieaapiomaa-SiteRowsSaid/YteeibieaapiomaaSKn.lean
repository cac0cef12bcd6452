import Derived.Test.YteeibieaapiomaaSKn8
/- SiteKnown: the walk. -/
namespace Go.Proofs.Yteeibieaapiomaa.D
open Go Go.Z Go.Proofs
set_option linter.unusedVariables false
theorem within8_calls {w : World} {a : Int} {n : Nat} (hn : 0 < n) (hn2 : n ≤ 1000000000) :
    Calls Try.prog 27 [.int .i64 a, .int .i64 n].toArray w fun e w' => e = .returned (.int .i64 (a % n)) ∧ w' = w := by
  have hm := tmod_emod a n hn
  refine calls_zc (n := 17) (f := 27) (fn := Try.f27) Try.func27 rfl rfl (by simp) ?_
  refine zc_seq ?_
  refine zc_region ?_
  refine zl_pureL rfl ?_
  refine zl_nil ?_
  refine zk_seq ?_
  iterate 2 (refine zc_seq ?_)
  refine zc_region ?_
  refine zl_pureL rfl ?_
  refine z_cmpB (r := false) want_none (by decide) rfl rfl rfl (iff_of_false Bool.false_ne_true (by omega)) ?_
  refine zl_nil ?_
  refine zk_seq ?_
  refine zc_false rfl ?_
  refine zc_skip ?_
  refine zk_seq ?_
  refine zc_seq ?_
  refine zc_region ?_
  iterate 2 (refine zl_pureL rfl ?_)
  refine z_rem (by first | exact want_none | exact want_L rfl) (by decide) rfl rfl (by omega) ?_
  refine zl_pureL rfl ?_
  refine zl_nil ?_
  refine zk_seq ?_
  iterate 2 (refine zc_seq ?_)
  refine zc_region ?_
  refine zl_pureL rfl ?_
  rcases hm with ⟨h1, h2, h3⟩ | ⟨h1, h2, h3⟩
  · refine z_cmpB (r := false) want_none (by decide) rfl rfl rfl (iff_of_false Bool.false_ne_true (by omega)) ?_
    refine zl_nil ?_
    refine zk_seq ?_
    refine zc_false rfl ?_
    refine zc_skip ?_
    refine zk_seq ?_
    refine zc_seq ?_
    refine zc_region ?_
    iterate 2 (refine zl_pureL rfl ?_)
    refine zl_nil ?_
    refine zk_seq ?_
    refine zc_ret ?_
    exact zk_ret1 (.inr rfl) rfl rfl ⟨by rw [h2], rfl⟩
  · refine z_cmpB (r := true) want_none (by decide) rfl rfl rfl (iff_of_true rfl (by omega)) ?_
    refine zl_nil ?_
    refine zk_seq ?_
    refine zc_true rfl ?_
    refine zc_region ?_
    iterate 2 (refine zl_pureL rfl ?_)
    refine z_add want_none (by decide) rfl rfl (by omega) (by omega) ?_
    refine zl_pureL rfl ?_
    refine zl_nil ?_
    refine zk_seq ?_
    refine zc_seq ?_
    refine zc_region ?_
    iterate 2 (refine zl_pureL rfl ?_)
    refine zl_nil ?_
    refine zk_seq ?_
    refine zc_ret ?_
    exact zk_ret1 (.inr rfl) rfl rfl ⟨by rw [h2], rfl⟩
def sDiv : ByteArray := ⟨#[100, 105, 118]⟩
def sBut : ByteArray := ⟨#[98, 117, 116, 116, 111, 110]⟩
def sTbl : ByteArray := ⟨#[116, 97, 98, 108, 101]⟩
def sTpl : ByteArray := ⟨#[116, 101, 109, 112, 108, 97, 116, 101]⟩
def sTr : ByteArray := ⟨#[116, 114]⟩
def sLi : ByteArray := ⟨#[108, 105]⟩
def sUl : ByteArray := ⟨#[117, 108]⟩
def kR : Nat → List ByteArray
  | 0 => [sP, sDiv]
  | 1 => [sP, sBut]
  | 2 => [sTbl, sTr]
  | 3 => [sTbl, sTpl, sTr]
  | 4 => [sTr]
  | _ => [sLi, sUl]
theorem kR_len (i : Nat) : (kR i).length ≤ 3 := by
  unfold kR
  split <;> decide
def kUp : List Nat := [2, 2, 0, 2, 0, 2]
def kUpV : List Value := [.int .i64 2, .int .i64 2, .int .i64 0, .int .i64 2, .int .i64 0, .int .i64 2]
def kAhV : List Value := [.int .i64 (-1), .int .i64 (-1), .int .i64 1, .int .i64 (-1), .int .i64 (-1), .int .i64 (-1)]
def kSp (i : Nat) : Int × Int := spotN (lnN (kR i)) (lnE (kR i)) true ((kR i).length : Nat)
theorem kUp_get : ∀ i, i < 6 → kUpV[i]? = some (.int .i64 (kSp i).1) := by
  intro i hi
  match i, hi with
  | 0, _ | 1, _ | 2, _ | 3, _ | 4, _ | 5, _ => rfl
theorem kAh_get : ∀ i, i < 6 → kAhV[i]? = some (.int .i64 (kSp i).2) := by
  intro i hi
  match i, hi with
  | 0, _ | 1, _ | 2, _ | 3, _ | 4, _ | 5, _ => rfl
def kHas (i : Nat) (sc : Int) (x : ByteArray) : Bool := hasF (lnE (kR i)) sc [x] ((lnE (kR i)).length - 1)
def kIn (i : Nat) : List Value := [.bool (kHas i 3 sP), .bool (!kHas i 3 sP), .bool (kHas i 4 sTbl), .bool (!kHas i 4 sTbl), .bool (kHas i 1 sTr), .bool (!kHas i 2 sLi)]
theorem kIn_get : ∀ i, i < 6 → (kIn i)[i]? = some (.bool true) := by
  intro i hi
  match i, hi with
  | 0, _ | 1, _ | 2, _ | 3, _ | 4, _ | 5, _ => rfl
def kV (b1 b2 b3 b4 b5 b6 : Nat) : List Value := [.slice (some ⟨b1, 0, none⟩) 2 2, .slice (some ⟨b2, 0, none⟩) 2 2, .slice (some ⟨b3, 0, none⟩) 2 2, .slice (some ⟨b4, 0, none⟩) 3 3, .slice (some ⟨b5, 0, none⟩) 1 1, .slice (some ⟨b6, 0, none⟩) 2 2]
theorem k_all {w : World} {b1 b2 b3 b4 b5 b6 : Nat} (h1 : NS w (.slice (some ⟨b1, 0, none⟩) 2 2) (kR 0)) (h2 : NS w (.slice (some ⟨b2, 0, none⟩) 2 2) (kR 1)) (h3 : NS w (.slice (some ⟨b3, 0, none⟩) 2 2) (kR 2)) (h4 : NS w (.slice (some ⟨b4, 0, none⟩) 3 3) (kR 3)) (h5 : NS w (.slice (some ⟨b5, 0, none⟩) 1 1) (kR 4)) (h6 : NS w (.slice (some ⟨b6, 0, none⟩) 2 2) (kR 5)) :
    ∀ i, i < 6 → ∃ v, (kV b1 b2 b3 b4 b5 b6)[i]? = some v ∧ NS w v (kR i) := by
  intro i hi
  match i, hi with
  | 0, _ => exact ⟨_, rfl, h1⟩
  | 1, _ => exact ⟨_, rfl, h2⟩
  | 2, _ => exact ⟨_, rfl, h3⟩
  | 3, _ => exact ⟨_, rfl, h4⟩
  | 4, _ => exact ⟨_, rfl, h5⟩
  | 5, _ => exact ⟨_, rfl, h6⟩
set_option maxRecDepth 100000 in
set_option maxHeartbeats 16000000 in
theorem SiteKnown_walk (k : Int) (w : World) : Calls Try.prog 7 #[.int .i64 k] w fun e w' => e = .returned (.bool true) ∧ RowKit.Below w.heap.size w w' := by
  show Calls Try.prog 7 [Value.int .i64 k].toArray w _
  obtain ⟨i, hi⟩ := Int.eq_ofNat_of_zero_le (Int.emod_nonneg k (show ((6 : Nat) : Int) ≠ 0 by decide))
  have hi6 : i < 6 := by have := Int.emod_lt_of_pos k (show (0 : Int) < ((6 : Nat) : Int) by decide); omega
  refine calls_zc (n := 104) (f := 7) (fn := Try.f7) Try.func7 rfl rfl (by simp) ?_
  refine zc_seq ?_
  refine zc_region ?_
  refine zl_pureL rfl ?_
  refine zl_nil ?_
  refine zk_seq ?_
  iterate 2 (refine zc_seq ?_)
  refine zc_region ?_
  refine zl_call (by first | exact want_none | exact want_L rfl) rfl (by decide) rfl known8_calls ?_
  rintro _ w1 ⟨rfl, hC1⟩
  refine ⟨_, rfl, ?_⟩
  refine zl_pureL rfl ?_
  refine zl_nil ?_
  refine zk_seq ?_
  refine zc_false rfl ?_
  refine zc_skip ?_
  refine zk_seq ?_
  refine zc_seq ?_
  refine zc_region ?_
  refine zl_call (by first | exact want_none | exact want_L rfl) rfl (by decide) rfl (sNewL_calls hC1) ?_
  rintro _ w2 ⟨s, q, rfl, h2, _, _⟩
  refine ⟨_, rfl, ?_⟩
  refine zl_pureL rfl ?_
  refine zl_nil ?_
  refine zk_seq ?_
  iterate 2 (refine zc_seq ?_)
  refine zc_region ?_
  refine zl_pureL rfl ?_
  refine z_eqPN (by first | exact want_none | exact want_L rfl) (by decide) rfl rfl ?_
  iterate 2 (refine zl_pureL rfl ?_)
  refine zl_call (by first | exact want_none | exact want_L rfl) rfl (by decide) rfl (sDoc_calls h2.is) ?_
  rintro _ u ⟨rfl, hu⟩
  obtain rfl := hu.symm
  refine ⟨_, rfl, ?_⟩
  refine z_eqPN (by first | exact want_none | exact want_L rfl) (by decide) rfl rfl ?_
  refine zl_pureL rfl ?_
  refine zl_nil ?_
  refine zk_seq ?_
  refine zc_false rfl ?_
  refine zc_skip ?_
  refine zk_seq ?_
  refine zc_seq ?_
  refine zc_region ?_
  refine z_bsE (nmsC (kR 0)) (by first | exact want_none | exact want_L rfl) (by decide) rfl (by decide) (by decide) (by kernel_rfl) (fun v1 b1 hN1 => ?_)
  refine z_bsE (nmsC (kR 1)) (by first | exact want_none | exact want_L rfl) (by decide) rfl (by decide) (by decide) (by kernel_rfl) (fun v2 b2 hN2 => ?_)
  refine z_bsE (nmsC (kR 2)) (by first | exact want_none | exact want_L rfl) (by decide) rfl (by decide) (by decide) (by kernel_rfl) (fun v3 b3 hN3 => ?_)
  refine z_bsE (nmsC (kR 3)) (by first | exact want_none | exact want_L rfl) (by decide) rfl (by decide) (by decide) (by kernel_rfl) (fun v4 b4 hN4 => ?_)
  refine z_bsE (nmsC (kR 4)) (by first | exact want_none | exact want_L rfl) (by decide) rfl (by decide) (by decide) (by kernel_rfl) (fun v5 b5 hN5 => ?_)
  refine z_bsE (nmsC (kR 5)) (by first | exact want_none | exact want_L rfl) (by decide) rfl (by decide) (by decide) (by kernel_rfl) (fun v6 b6 hN6 => ?_)
  refine z_bsE (kV b1 b2 b3 b4 b5 b6) (by first | exact want_none | exact want_L rfl) (by decide) rfl (by decide) (by decide) (by kernel_rfl) (fun w3 b7 hN7 => ?_)
  have n1 : NS v1 (.slice (some ⟨b1, 0, none⟩) 2 2) (kR 0) := RdS.new hN1 rfl (nmsC_one _)
  have n2 : NS v2 (.slice (some ⟨b2, 0, none⟩) 2 2) (kR 1) := RdS.new hN2 rfl (nmsC_one _)
  have n3 : NS v3 (.slice (some ⟨b3, 0, none⟩) 2 2) (kR 2) := RdS.new hN3 rfl (nmsC_one _)
  have n4 : NS v4 (.slice (some ⟨b4, 0, none⟩) 3 3) (kR 3) := RdS.new hN4 rfl (nmsC_one _)
  have n5 : NS v5 (.slice (some ⟨b5, 0, none⟩) 1 1) (kR 4) := RdS.new hN5 rfl (nmsC_one _)
  have n6 : NS v6 (.slice (some ⟨b6, 0, none⟩) 2 2) (kR 5) := RdS.new hN6 rfl (nmsC_one _)
  have c67 := hN7.chg
  have c57 := hN6.chg.no c67
  have c47 := hN5.chg.no c57
  have c37 := hN4.chg.no c47
  have c27 := hN3.chg.no c37
  have c17 := hN2.chg.no c27
  have h3 := h2.no (hN1.chg.no c17)
  obtain ⟨v, hv, hns⟩ := k_all (RdS.no n1 c17) (RdS.no n2 c27) (RdS.no n3 c37) (RdS.no n4 c47) (RdS.no n5 c57) (RdS.no n6 c67) i hi6
  obtain ⟨Ar, cr, rfl, _⟩ := hns.form
  have g7 : w3.cell? ⟨b7, 0 + i, none⟩ = some (.slice Ar (kR i).length cr) := by rw [Nat.zero_add]; exact (hN7.blk.cell i).trans hv
  have hkl := kR_len i
  refine zl_pureL rfl ?_
  refine zl_nil ?_
  refine zk_seq ?_
  refine zc_seq ?_
  refine zc_region ?_
  iterate 2 (refine zl_pureL rfl ?_)
  refine z_len want_none (by decide) rfl ?_
  refine zl_call (by first | exact want_none | exact want_L rfl) rfl (by decide) rfl (within8_calls (n := 6) (by decide) (by decide)) ?_
  rintro _ u ⟨rfl, hu⟩
  obtain rfl := hu.symm
  refine ⟨_, rfl, ?_⟩
  rw [hi]
  refine zl_pureL rfl ?_
  refine zl_nil ?_
  refine zk_seq ?_
  iterate 2 (refine zc_seq ?_)
  refine zc_region ?_
  refine zl_pureL rfl ?_
  refine zl_nil ?_
  refine zk_seq ?_
  refine zc_block ?_
  refine zc_loopW (ι := Nat × SP × List Bool × (ByteArray → Int)) (fun k u => [(3, .pointer (some ⟨s, 0, none⟩)), (4, .slice (some ⟨b7, 0, none⟩) 6 6), (5, .int .i64 (i : Nat)), (6, .int .i64 (k.1 : Nat))])
    (fun k u => k.1 ≤ (kR i).length ∧ SF w u s k.2.1 (lnE ((kR i).take k.1)) k.2.2.1 k.2.2.2 (lnN ((kR i).take k.1)) false ∧ WrS w3 u s q k.2.1) (fun k u => (kR i).length - k.1) (0, q, _, _)
    ⟨Nat.zero_le _, h3, WrS.refl _ _ _⟩ ?_ ?_
  · exact ⟨rfl, rfl, rfl, rfl, trivial⟩
  rintro ⟨j, qj, Ij, mj⟩ u ⟨hj, hS, hW⟩
  dsimp only at hj hS hW ⊢
  have hb7 : Blk u b7 58 (kV b1 b2 b3 b4 b5 b6) := hN7.blk.chg hW.chg (h3.is.noT hN7.blk (by decide) (by decide) (by decide) (by decide) (by decide) (by decide) (by decide) (by decide))
  have hnu : NS u (.slice Ar (kR i).length cr) (kR i) := RdS.chg hns hW.chg (fun b cells hb => h3.is.noT hb (by decide) (by decide) (by decide) (by decide) (by decide) (by decide) (by decide) (by decide))
  have gu : u.cell? ⟨b7, 0 + i, none⟩ = some (.slice Ar (kR i).length cr) := by rw [Nat.zero_add]; exact (hb7.cell i).trans hv
  obtain ⟨n, hn⟩ : ∃ n, n = (kR i).length := ⟨_, rfl⟩
  rw [← hn] at hj hkl gu hnu
  iterate 2 (refine zc_seq ?_)
  refine zc_region ?_
  iterate 3 (refine zl_pureL rfl ?_)
  refine z_ia want_none (by decide) rfl rfl (by omega) (by omega) ?_
  refine z_load1 (by first | exact want_none | exact want_L rfl) (by decide) rfl (cell_at gu (by omega)) ?_
  by_cases hlt : j < n
  · obtain ⟨bn, on, cn, hvn, _, hcn⟩ := RdS.some hnu (by omega)
    rw [← hn] at hvn
    cases hvn
    have gx : u.cell? ⟨bn, on + j, none⟩ = some (.string ((kR i).getD j ⟨#[]⟩)) := by
      exact hcn j _ (nmsC_get (kR i) j (by omega))
    refine z_len want_none (by decide) rfl ?_
    refine z_cmpB (r := true) want_none (by decide) rfl rfl rfl (iff_of_true rfl (by omega)) ?_
    refine zl_nil ?_
    refine zk_seq ?_
    refine zc_true rfl ?_
    refine zc_skip ?_
    refine zk_seq ?_
    refine zc_seq ?_
    refine zc_block ?_
    refine zc_region ?_
    iterate 3 (refine zl_pureL rfl ?_)
    refine z_ia want_none (by decide) rfl rfl (by omega) (by omega) ?_
    refine z_load1 (by first | exact want_none | exact want_L rfl) (by decide) rfl (cell_at gu (by omega)) ?_
    refine zl_pureL rfl ?_
    refine z_ia want_none (by decide) rfl rfl (by omega) (by omega) ?_
    refine z_load1 (by first | exact want_none | exact want_L rfl) (by decide) rfl (cell_at gx (by omega)) ?_
    skip
    refine zl_call (by first | exact want_none | exact want_L rfl) rfl (by decide) rfl (hS.addL (by rw [List.length_take]; omega) ((kR i).getD j ⟨#[]⟩) rfl) ?_
    rintro _ u2 ⟨rfl, q2, I2, m2, hq2, hW2, hS2⟩
    refine ⟨_, rfl, ?_⟩
    have et : (kR i).take j ++ [(kR i).getD j ⟨#[]⟩] = (kR i).take (j + 1) := by
      rw [List.take_add_one, List.getD_eq_getElem?_getD, List.getElem?_eq_getElem (by omega)]; rfl
    rw [et] at hS2
    refine zl_nil ?_
    refine zk_norm_block ?_
    refine zk_seq ?_
    refine zc_region ?_
    refine zl_pureL rfl ?_
    refine z_add want_none (by decide) rfl rfl (by omega) (by omega) ?_
    refine zl_pureL rfl ?_
    refine zl_nil ?_
    refine zk_loopW (j + 1, q2, I2, m2) ⟨by dsimp only; omega, hS2, hW.trans hW2⟩ (by dsimp only; omega) ⟨rfl, rfl, rfl, rfl, trivial⟩
  · have et : (kR i).take j = kR i := List.take_of_length_le (by omega)
    rw [et] at hS
    have hNl : (lnN (kR i)).length ≤ 900000 := by rw [lnN_len]; omega
    refine z_len want_none (by decide) rfl ?_
    refine z_cmpB (r := false) want_none (by decide) rfl rfl rfl (iff_of_false Bool.false_ne_true (by omega)) ?_
    refine zl_nil ?_
    refine zk_seq ?_
    refine zc_false rfl ?_
    refine zc_exit ?_
    iterate 2 (refine zk_exit_then ?_)
    refine zk_exit_block ?_
    refine zk_seq ?_
    refine zc_seq ?_
    refine zc_region ?_
    refine zl_pureL rfl ?_
    refine zl_call (by first | exact want_none | exact want_L rfl) rfl (by decide) rfl (hS.foster true) ?_
    rintro _ u1 ⟨rfl, hS1, _⟩
    refine ⟨_, rfl, ?_⟩
    refine zl_nil ?_
    refine zk_seq ?_
    refine zc_seq ?_
    refine zc_region ?_
    iterate 2 (refine zl_pureL rfl ?_)
    refine zl_call (by first | exact want_none | exact want_L rfl) rfl (by decide) rfl (hS1.topZ hNl (z := ((kR i).length : Nat)) (by rw [lnE_last])) ?_
    rintro _ u2 ⟨rfl, hC2⟩
    refine ⟨_, rfl, ?_⟩
    have hS2 := hS1.no hC2
    skip
    refine zl_call (by first | exact want_none | exact want_L rfl) rfl (by decide) rfl (hS2.spotZ (lnN_big _) hNl _ (z := kSp i) rfl) ?_
    rintro _ u3 ⟨rfl, hC3⟩
    refine ⟨_, rfl, ?_⟩
    have hS3 := hS2.no hC3
    iterate 5 (refine zl_pureL rfl ?_)
    refine zl_nil ?_
    refine zk_seq ?_
    refine zc_seq ?_
    refine zc_region ?_
    refine z_bsE kUpV (by first | exact want_none | exact want_L rfl) (by decide) rfl (by decide) (by decide) (by kernel_rfl) (fun u4 b8 hM4 => ?_)
    refine z_bsE kAhV (by first | exact want_none | exact want_L rfl) (by decide) rfl (by decide) (by decide) (by kernel_rfl) (fun u5 b9 hM5 => ?_)
    have hS5 := (hS3.no hM4.chg).no hM5.chg
    have hb8 := hM4.blk.no hM5.chg
    have hb9 := hM5.blk
    iterate 2 (refine zl_pureL rfl ?_)
    refine zl_nil ?_
    refine zk_seq ?_
    refine zc_seq ?_
    refine zc_region ?_
    refine zl_pureL rfl ?_
    refine z_bs1 (by first | exact want_none | exact want_L rfl) (by decide) rfl (by rfl) (by rfl) (by decide) (by decide) (fun x10 c10 hX10 => ?_)
    have hn10 : NS x10 (.slice (some ⟨c10, 0, none⟩) 1 1) [sP] := RdS.new hX10 rfl (nmsC_one _)
    skip
    refine zl_call (by first | exact want_none | exact want_L rfl) rfl (by decide) rfl ((hS5.no hX10.chg).hasZ hNl hn10 (by simp) 3 (z := kHas i 3 sP) rfl) ?_
    rintro _ y10 ⟨rfl, hY10⟩
    refine ⟨_, rfl, ?_⟩
    have hS10 := (hS5.no hX10.chg).no hY10
    have hb8 := (hb8.no hX10.chg).no hY10
    have hb9 := (hb9.no hX10.chg).no hY10
    refine zl_pureL rfl ?_
    refine z_bs1 (by first | exact want_none | exact want_L rfl) (by decide) rfl (by rfl) (by rfl) (by decide) (by decide) (fun x11 c11 hX11 => ?_)
    have hn11 : NS x11 (.slice (some ⟨c11, 0, none⟩) 1 1) [sP] := RdS.new hX11 rfl (nmsC_one _)
    skip
    refine zl_call (by first | exact want_none | exact want_L rfl) rfl (by decide) rfl ((hS10.no hX11.chg).hasZ hNl hn11 (by simp) 3 (z := kHas i 3 sP) rfl) ?_
    rintro _ y11 ⟨rfl, hY11⟩
    refine ⟨_, rfl, ?_⟩
    have hS11 := (hS10.no hX11.chg).no hY11
    have hb8 := (hb8.no hX11.chg).no hY11
    have hb9 := (hb9.no hX11.chg).no hY11
    refine z_not (by first | exact want_none | exact want_L rfl) (by decide) rfl ?_
    refine zl_pureL rfl ?_
    refine z_bs1 (by first | exact want_none | exact want_L rfl) (by decide) rfl (by rfl) (by rfl) (by decide) (by decide) (fun x12 c12 hX12 => ?_)
    have hn12 : NS x12 (.slice (some ⟨c12, 0, none⟩) 1 1) [sTbl] := RdS.new hX12 rfl (nmsC_one _)
    skip
    refine zl_call (by first | exact want_none | exact want_L rfl) rfl (by decide) rfl ((hS11.no hX12.chg).hasZ hNl hn12 (by simp) 4 (z := kHas i 4 sTbl) rfl) ?_
    rintro _ y12 ⟨rfl, hY12⟩
    refine ⟨_, rfl, ?_⟩
    have hS12 := (hS11.no hX12.chg).no hY12
    have hb8 := (hb8.no hX12.chg).no hY12
    have hb9 := (hb9.no hX12.chg).no hY12
    refine zl_pureL rfl ?_
    refine z_bs1 (by first | exact want_none | exact want_L rfl) (by decide) rfl (by rfl) (by rfl) (by decide) (by decide) (fun x13 c13 hX13 => ?_)
    have hn13 : NS x13 (.slice (some ⟨c13, 0, none⟩) 1 1) [sTbl] := RdS.new hX13 rfl (nmsC_one _)
    skip
    refine zl_call (by first | exact want_none | exact want_L rfl) rfl (by decide) rfl ((hS12.no hX13.chg).hasZ hNl hn13 (by simp) 4 (z := kHas i 4 sTbl) rfl) ?_
    rintro _ y13 ⟨rfl, hY13⟩
    refine ⟨_, rfl, ?_⟩
    have hS13 := (hS12.no hX13.chg).no hY13
    have hb8 := (hb8.no hX13.chg).no hY13
    have hb9 := (hb9.no hX13.chg).no hY13
    refine z_not (by first | exact want_none | exact want_L rfl) (by decide) rfl ?_
    refine zl_pureL rfl ?_
    refine z_bs1 (by first | exact want_none | exact want_L rfl) (by decide) rfl (by rfl) (by rfl) (by decide) (by decide) (fun x14 c14 hX14 => ?_)
    have hn14 : NS x14 (.slice (some ⟨c14, 0, none⟩) 1 1) [sTr] := RdS.new hX14 rfl (nmsC_one _)
    skip
    refine zl_call (by first | exact want_none | exact want_L rfl) rfl (by decide) rfl ((hS13.no hX14.chg).hasZ hNl hn14 (by simp) 1 (z := kHas i 1 sTr) rfl) ?_
    rintro _ y14 ⟨rfl, hY14⟩
    refine ⟨_, rfl, ?_⟩
    have hS14 := (hS13.no hX14.chg).no hY14
    have hb8 := (hb8.no hX14.chg).no hY14
    have hb9 := (hb9.no hX14.chg).no hY14
    refine zl_pureL rfl ?_
    refine z_bs1 (by first | exact want_none | exact want_L rfl) (by decide) rfl (by rfl) (by rfl) (by decide) (by decide) (fun x15 c15 hX15 => ?_)
    have hn15 : NS x15 (.slice (some ⟨c15, 0, none⟩) 1 1) [sLi] := RdS.new hX15 rfl (nmsC_one _)
    skip
    refine zl_call (by first | exact want_none | exact want_L rfl) rfl (by decide) rfl ((hS14.no hX15.chg).hasZ hNl hn15 (by simp) 2 (z := kHas i 2 sLi) rfl) ?_
    rintro _ y15 ⟨rfl, hY15⟩
    refine ⟨_, rfl, ?_⟩
    have hS15 := (hS14.no hX15.chg).no hY15
    have hb8 := (hb8.no hX15.chg).no hY15
    have hb9 := (hb9.no hX15.chg).no hY15
    refine z_not (by first | exact want_none | exact want_L rfl) (by decide) rfl ?_
    refine z_bsE (kIn i) (by first | exact want_none | exact want_L rfl) (by decide) rfl (by decide) (by decide) (by kernel_rfl) (fun z1 bz hZ => ?_)
    have g8 : z1.cell? ⟨b8, 0 + i, none⟩ = some (.int .i64 (kSp i).1) := by rw [Nat.zero_add]; exact ((hb8.no hZ.chg).cell i).trans (kUp_get i hi6)
    have g9 : z1.cell? ⟨b9, 0 + i, none⟩ = some (.int .i64 (kSp i).2) := by rw [Nat.zero_add]; exact ((hb9.no hZ.chg).cell i).trans (kAh_get i hi6)
    have gz : z1.cell? ⟨bz, 0 + i, none⟩ = some (.bool true) := by rw [Nat.zero_add]; exact (hZ.blk.cell i).trans (kIn_get i hi6)
    have hE := (hS15.no hZ.chg).chg
    refine zl_pureL rfl ?_
    refine zl_nil ?_
    refine zk_seq ?_
    refine zc_seq ?_
    refine zc_region ?_
    iterate 3 (refine zl_pureL rfl ?_)
    refine z_ia want_none (by decide) rfl rfl (by omega) (by omega) ?_
    refine z_load1 (by first | exact want_none | exact want_L rfl) (by decide) rfl (cell_at g8 (by omega)) ?_
    refine z_cmpB (r := true) want_none (by decide) rfl rfl rfl (iff_of_true rfl (by omega)) ?_
    iterate 4 (refine zl_pureL rfl ?_)
    refine z_ia (want_L rfl) (by decide) rfl rfl (by omega) (by omega) ?_
    refine z_load1 (by first | exact want_none | exact want_L rfl) (by decide) rfl (cell_at g9 (by omega)) ?_
    refine z_cmpB (r := true) (want_L rfl) (by decide) rfl rfl rfl (iff_of_true rfl (by omega)) ?_
    iterate 4 (refine zl_pureL rfl ?_)
    refine z_ia (want_L rfl) (by decide) rfl rfl (by omega) (by omega) ?_
    refine z_load1 (by first | exact want_none | exact want_L rfl) (by decide) rfl (cell_at gz (by omega)) ?_
    iterate 2 (refine zl_pureL rfl ?_)
    refine zl_nil ?_
    refine zk_seq ?_
    refine zc_ret ?_
    exact zk_ret1 (.inr rfl) rfl rfl ⟨rfl, hE.below⟩
end Go.Proofs.Yteeibieaapiomaa.D
