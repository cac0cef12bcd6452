import Derived.Test.YtaagolhokejflaaMLaw0
import Derived.Test.YtaagolhokejflaaMAll

/- Names, attributes of a number; rows of marks held against each other. -/
namespace Go.Proofs.Ytaagolhokejflaa.M
open Go Go.Z Go.Proofs
set_option linter.unusedVariables false
def nameL : List ByteArray := [⟨#[98]⟩, ⟨#[105]⟩, ⟨#[97]⟩, ⟨#[101, 109]⟩, ⟨#[110, 111, 98, 114]⟩]
def nameN (k : Int) : ByteArray := nameL.getD (k % 5).toNat ⟨#[]⟩
def cellNm : List Value := [.string ⟨#[98]⟩, .string ⟨#[105]⟩, .string ⟨#[97]⟩, .string ⟨#[101, 109]⟩, .string ⟨#[110, 111, 98, 114]⟩]
theorem cellNm_at : ∀ i, i < 5 → cellNm[i]? = some (.string (nameL.getD i ⟨#[]⟩))
  | 0, _ | 1, _ | 2, _ | 3, _ | 4, _ => rfl
theorem name_calls {w : World} (k : Int) : Calls Try.prog 20 [.int .i64 k].toArray w fun e w' => e = .returned (.string (nameN k)) ∧ Chg w w' No := by
  have h5 : 0 ≤ k % 5 ∧ k % 5 < 5 := ⟨Int.emod_nonneg _ (by decide), Int.emod_lt_of_pos _ (by decide)⟩
  obtain ⟨i, hi⟩ := Int.eq_ofNat_of_zero_le h5.1
  refine calls_zc (n := 8) (f := 20) (fn := Try.f20) Try.func20 rfl rfl (by simp) ?_
  refine zc_seq ?_
  refine zc_region ?_
  refine zl_pureL rfl ?_
  refine zl_nil ?_
  refine zk_seq ?_
  refine zc_seq ?_
  refine zc_region ?_
  refine z_bsE [.string ⟨#[98]⟩, .string ⟨#[105]⟩, .string ⟨#[97]⟩, .string ⟨#[101, 109]⟩, .string ⟨#[110, 111, 98, 114]⟩] (by first | exact want_none | exact want_L rfl) (by decide) rfl (by decide) (by decide) (by kernel_rfl) (fun w1 b1 hN1 => ?_)
  have hb1 : Blk w1 b1 9 cellNm := hN1.blk
  refine zl_pureL rfl ?_
  refine zl_call (by first | exact want_none | exact want_L rfl) rfl (by decide) rfl (within_calls (n := 5) (by decide) (by decide)) ?_
  rintro _ w2 ⟨rfl, rfl⟩
  refine ⟨_, rfl, ?_⟩
  rw [show k % (5 : Nat) = (i : Int) from hi]
  have l1 : ∀ z, z = i → w2.cell? ⟨b1, z, none⟩ = some (.string (nameN k)) := fun z hz => by
    rw [hz, hb1.cell, cellNm_at i (by omega)]; unfold nameN; rw [hi]; rfl
  refine z_ia want_none (by decide) rfl rfl (by omega) (by omega) ?_
  refine z_load1 (by first | exact want_none | exact want_L rfl) (by decide) rfl (l1 _ (by omega)) ?_
  refine zl_pureL rfl ?_
  refine zl_nil ?_
  refine zk_seq ?_
  refine zc_ret ?_
  exact zk_ret1 (.inr rfl) rfl rfl ⟨rfl, hN1.chg⟩
def sA : ByteArray := ⟨#[97]⟩
def s1 : ByteArray := ⟨#[49]⟩
def s2 : ByteArray := ⟨#[50]⟩
def attrsL : Nat → List At
  | 1 => [(⟨#[97]⟩, ⟨#[49]⟩)]
  | 2 => [(⟨#[97]⟩, ⟨#[49]⟩), (⟨#[98]⟩, ⟨#[50]⟩)]
  | 3 => [(⟨#[98]⟩, ⟨#[50]⟩), (⟨#[97]⟩, ⟨#[49]⟩)]
  | 4 => [(⟨#[97]⟩, ⟨#[50]⟩)]
  | _ => []
def attrsN (k : Int) : List At := attrsL (k % 7).toNat
theorem attrsN_len (k : Int) : (attrsN k).length ≤ 2 := by
  unfold attrsN attrsL; split <;> simp
theorem New.attr {w w' : World} {b : Nat} {cs : List Value} (h : New w w' b 47 cs) (l : List At) (hl : cs = encA l) (m : Nat) (hm : m = l.length) : AttrS w' (.slice (some ⟨b, 0, none⟩) m m) l := by
  subst hl; subst hm
  exact RdS.new h (encA_len l) (encA_one l)
set_option maxHeartbeats 1000000 in
theorem attrs_calls {w : World} (k : Int) : Calls Try.prog 21 [.int .i64 k].toArray w fun e w' => ∃ v, e = .returned v ∧ AttrS w' v (attrsN k) ∧ Chg w w' No := by
  have h7 : 0 ≤ k % 7 ∧ k % 7 < 7 := ⟨Int.emod_nonneg _ (by decide), Int.emod_lt_of_pos _ (by decide)⟩
  obtain ⟨i, hi⟩ := Int.eq_ofNat_of_zero_le h7.1
  have hat : attrsN k = attrsL i := by unfold attrsN; rw [hi]; rfl
  rw [hat]
  refine calls_zc (n := 27) (f := 21) (fn := Try.f21) Try.func21 rfl rfl (by simp) ?_
  refine zc_seq ?_
  refine zc_region ?_
  refine zl_pureL rfl ?_
  refine zl_nil ?_
  refine zk_seq ?_
  refine zc_seq ?_
  refine zc_region ?_
  refine z_buildE #[.string ⟨#[97]⟩, .string ⟨#[49]⟩] (by first | exact want_none | exact want_L rfl) (by decide) rfl (by kernel_rfl) ?_
  refine z_buildE #[.string ⟨#[98]⟩, .string ⟨#[50]⟩] (by first | exact want_none | exact want_L rfl) (by decide) rfl (by kernel_rfl) ?_
  refine z_alloc (by first | exact want_none | exact want_L rfl) (by decide) (fun w1 b1 hN1 => ?_)
  have hb1 : Blk w1 b1 47 [.string ⟨#[]⟩, .string ⟨#[]⟩] := hN1.blk
  refine z_alloc (by first | exact want_none | exact want_L rfl) (by decide) (fun w2 b2 hN2 => ?_)
  have hb1 := hb1.no hN2.chg
  have hb2 : Blk w2 b2 47 [.string ⟨#[]⟩, .string ⟨#[]⟩] := hN2.blk
  have hne : b1 ≠ b2 := by have := hN1.at_; have := hN2.at_; have := hN1.size; omega
  have hC2 := hN1.chg.new hN2
  refine z_store (by first | exact want_none | exact want_L rfl) rfl rfl rfl (by assumption) (by first | exact Nat.le_refl _ | simp [Value.cells]) (by simp [Value.cells, Value.oneCell']) (fun w3 hU3 => ?_)
  have hb1 : Blk w3 b1 47 [.string ⟨#[97]⟩, .string ⟨#[49]⟩] := hU3.blk
  have hb2 := hb2.chg hU3.chg (fun he => hne he.symm)
  have hC3 := hC2.upd hU3 (hN1.ge (Chg.refl _ No))
  refine z_store (by first | exact want_none | exact want_L rfl) rfl rfl rfl (by assumption) (by first | exact Nat.le_refl _ | simp [Value.cells]) (by simp [Value.cells, Value.oneCell']) (fun w4 hU4 => ?_)
  have hb2 : Blk w4 b2 47 [.string ⟨#[98]⟩, .string ⟨#[50]⟩] := hU4.blk
  have hb1 := hb1.chg hU4.chg hne
  have hC4 := hC3.upd hU4 (hN2.ge hN1.chg)
  refine zl_nil ?_
  refine zk_seq ?_
  iterate 2 (refine zc_seq ?_)
  refine zc_region ?_
  refine zl_pureL rfl ?_
  refine zl_call (by first | exact want_none | exact want_L rfl) rfl (by decide) rfl (within_calls (n := 7) (by decide) (by decide)) ?_
  rintro _ w2 ⟨rfl, rfl⟩
  refine ⟨_, rfl, ?_⟩
  rw [show k % (7 : Nat) = (i : Int) from hi]
  refine zl_nil ?_
  refine zk_seq ?_
  refine zc_block ?_
  refine zc_seq ?_
  refine zc_region ?_
  refine z_cmp (by first | exact want_none | exact want_L rfl) (by decide) rfl rfl rfl (fun hc => ?_) (fun hc => ?_)
  · obtain rfl : i = 1 := by omega
    refine zl_pureL rfl ?_
    refine zl_nil ?_
    refine zk_seq ?_
    refine zc_true rfl ?_
    refine zc_seq ?_
    refine zc_region ?_
    refine z_loadAB want_none (by decide) rfl (by assumption) (by rfl) ?_
    refine z_bs1 (by first | exact want_none | exact want_L rfl) (by decide) rfl (by rfl) (by rfl) (by decide) (by decide) (fun w5 b5 hN5 => ?_)
    refine zl_pureL rfl ?_
    refine zl_nil ?_
    refine zk_seq ?_
    refine zc_ret ?_
    refine zk_ret_block ?_
    refine zk_ret_then ?_
    exact zk_ret1 (.inr rfl) rfl rfl ⟨_, rfl, New.attr hN5 (attrsL 1) rfl 1 rfl, hC4.no hN5.chg⟩
  · refine zl_pureL rfl ?_
    refine zl_nil ?_
    refine zk_seq ?_
    refine zc_false rfl ?_
    refine zc_seq ?_
    refine zc_region ?_
    refine z_cmp (by first | exact want_none | exact want_L rfl) (by decide) rfl rfl rfl (fun hc => ?_) (fun hc => ?_)
    · obtain rfl : i = 2 := by omega
      refine zl_pureL rfl ?_
      refine zl_nil ?_
      refine zk_seq ?_
      refine zc_true rfl ?_
      refine zc_seq ?_
      refine zc_region ?_
      iterate 2 (refine z_loadAB want_none (by decide) rfl (by assumption) (by rfl) ?_)
      refine z_bsE [.string ⟨#[97]⟩, .string ⟨#[49]⟩, .string ⟨#[98]⟩, .string ⟨#[50]⟩] (by first | exact want_none | exact want_L rfl) (by decide) rfl (by decide) (by decide) (by kernel_rfl) (fun w5 b5 hN5 => ?_)
      refine zl_pureL rfl ?_
      refine zl_nil ?_
      refine zk_seq ?_
      refine zc_ret ?_
      refine zk_ret_block ?_
      refine zk_ret_then ?_
      exact zk_ret1 (.inr rfl) rfl rfl ⟨_, rfl, New.attr hN5 (attrsL 2) rfl 2 rfl, hC4.no hN5.chg⟩
    · refine zl_pureL rfl ?_
      refine zl_nil ?_
      refine zk_seq ?_
      refine zc_false rfl ?_
      refine zc_seq ?_
      refine zc_region ?_
      refine z_cmp (by first | exact want_none | exact want_L rfl) (by decide) rfl rfl rfl (fun hc => ?_) (fun hc => ?_)
      · obtain rfl : i = 3 := by omega
        refine zl_pureL rfl ?_
        refine zl_nil ?_
        refine zk_seq ?_
        refine zc_true rfl ?_
        refine zc_seq ?_
        refine zc_region ?_
        iterate 2 (refine z_loadAB want_none (by decide) rfl (by assumption) (by rfl) ?_)
        refine z_bsE [.string ⟨#[98]⟩, .string ⟨#[50]⟩, .string ⟨#[97]⟩, .string ⟨#[49]⟩] (by first | exact want_none | exact want_L rfl) (by decide) rfl (by decide) (by decide) (by kernel_rfl) (fun w5 b5 hN5 => ?_)
        refine zl_pureL rfl ?_
        refine zl_nil ?_
        refine zk_seq ?_
        refine zc_ret ?_
        refine zk_ret_block ?_
        refine zk_ret_then ?_
        exact zk_ret1 (.inr rfl) rfl rfl ⟨_, rfl, New.attr hN5 (attrsL 3) rfl 2 rfl, hC4.no hN5.chg⟩
      · refine zl_pureL rfl ?_
        refine zl_nil ?_
        refine zk_seq ?_
        refine zc_false rfl ?_
        refine zc_seq ?_
        refine zc_region ?_
        refine z_cmp (by first | exact want_none | exact want_L rfl) (by decide) rfl rfl rfl (fun hc => ?_) (fun hc => ?_)
        · obtain rfl : i = 4 := by omega
          refine zl_pureL rfl ?_
          refine zl_nil ?_
          refine zk_seq ?_
          refine zc_true rfl ?_
          refine zc_seq ?_
          refine zc_region ?_
          refine z_buildE #[.string ⟨#[97]⟩, .string ⟨#[50]⟩] (by first | exact want_none | exact want_L rfl) (by decide) rfl (by kernel_rfl) ?_
          refine z_bs1 (by first | exact want_none | exact want_L rfl) (by decide) rfl (by rfl) (by rfl) (by decide) (by decide) (fun w5 b5 hN5 => ?_)
          refine zl_pureL rfl ?_
          refine zl_nil ?_
          refine zk_seq ?_
          refine zc_ret ?_
          refine zk_ret_block ?_
          refine zk_ret_then ?_
          exact zk_ret1 (.inr rfl) rfl rfl ⟨_, rfl, New.attr hN5 (attrsL 4) rfl 1 rfl, hC4.no hN5.chg⟩
        · have h0 : attrsL i = [] := by
            match i, (show i ≠ 1 by omega), (show i ≠ 2 by omega), (show i ≠ 3 by omega), (show i ≠ 4 by omega) with
            | 0, _, _, _, _ => rfl
            | 1, h, _, _, _ => exact absurd rfl h
            | 2, _, h, _, _ => exact absurd rfl h
            | 3, _, _, h, _ => exact absurd rfl h
            | 4, _, _, _, h => exact absurd rfl h
            | n + 5, _, _, _, _ => rfl
          rw [h0]
          refine zl_pureL rfl ?_
          refine zl_nil ?_
          refine zk_seq ?_
          refine zc_false rfl ?_
          refine zc_skip ?_
          refine zk_norm_block ?_
          refine zk_seq ?_
          refine zc_seq ?_
          refine zc_region ?_
          refine zl_pureL rfl ?_
          refine zl_nil ?_
          refine zk_seq ?_
          refine zc_ret ?_
          exact zk_ret1 (.inr rfl) rfl rfl ⟨_, rfl, AttrS.nil _, hC4⟩
/-- attributes held against each other -/
theorem eq_attr {w : World} {a b c d : ByteArray} (k : Nat) : (Op.equalIn (k + 5) 47 (.agg #[.string a, .string b]) (.agg #[.string c, .string d])).run Try.prog w = .ok (decide (a = c) && (decide (b = d) && true)) w := by
  refine eq_struct Try.underlying47 (by kernel_rfl) ?_
  refine eqF_cons (by rfl) (part1 rfl) (part1 rfl) eq_str ?_
  exact eqF_cons (by rfl) (part1 rfl) (part1 rfl) eq_str eqF_nil
theorem take_getD {α : Type} (d : α) {l : List α} {k : Nat} (h : k < l.length) : l.take (k + 1) = l.take k ++ [l.getD k d] := by
  rw [List.take_succ_eq_append_getElem h, List.getD_eq_getElem?_getD, List.getElem?_eq_getElem h]; rfl
set_option maxHeartbeats 2000000 in
theorem alike_calls {w : World} {v1 v2 : Value} {l1 l2 : List At} (h1 : AttrS w v1 l1) (h2 : AttrS w v2 l2) (hl1 : l1.length ≤ 100000) (hl2 : l2.length ≤ 100000) :
    Calls Try.prog 45 [v1, v2].toArray w fun e w' => e = .returned (.bool (decide (l1 = l2))) ∧ Chg w w' No := by
  obtain ⟨A1, c1, hv1, hc1⟩ := h1.form
  obtain ⟨A2, c2, hv2, hc2⟩ := h2.form
  subst hv1; subst hv2
  refine calls_zc (n := 26) (f := 45) (fn := Try.f45) Try.func45 rfl rfl (by simp) ?_
  refine zc_seq ?_
  refine zc_region ?_
  refine zl_pureL rfl ?_
  refine zl_nil ?_
  refine zk_seq ?_
  iterate 2 (refine zc_seq ?_)
  refine zc_region ?_
  refine zl_pureL rfl ?_
  refine z_len want_none (by decide) rfl ?_
  refine zl_pureL rfl ?_
  refine z_len want_none (by decide) rfl ?_
  refine z_cmp (by first | exact want_none | exact want_L rfl) (by decide) rfl rfl rfl (fun hc => ?_) (fun hc => ?_)
  · refine zl_nil ?_
    refine zk_seq ?_
    refine zc_true rfl ?_
    refine zc_seq ?_
    refine zc_region ?_
    refine zl_pureL rfl ?_
    refine zl_nil ?_
    refine zk_seq ?_
    refine zc_ret ?_
    refine zk_ret_then ?_
    refine zk_ret1 (.inr rfl) rfl rfl ⟨?_, Chg.refl _ _⟩
    have : ¬ l1 = l2 := fun h => by subst h; omega
    rw [decide_eq_false this]
  · have hll : l1.length = l2.length := by omega
    refine zl_nil ?_
    refine zk_seq ?_
    refine zc_false rfl ?_
    refine zc_skip ?_
    refine zk_seq ?_
    iterate 2 (refine zc_seq ?_)
    refine zc_region ?_
    refine zl_pureL rfl ?_
    refine zl_nil ?_
    refine zk_seq ?_
    refine zc_block ?_
    refine zc_loopW (ι := Nat) (fun k u => [(0, .slice A1 l1.length c1), (1, .slice A2 l2.length c2), (5, .int .i64 k)])
      (fun k u => k ≤ l1.length ∧ Chg w u No ∧ l1.take k = l2.take k) (fun k u => l1.length - k) 0 ⟨Nat.zero_le _, Chg.refl _ _, rfl⟩ ?_ ?_
    · exact ⟨rfl, rfl, rfl, trivial⟩
    rintro k w2 ⟨hk, hC, hb⟩
    by_cases hlt : k < l1.length
    · obtain ⟨b, o, c', hv, g0, g1⟩ := (h1.no hC).at_ k hlt
      obtain ⟨b', o', c'', hv', g0', g1'⟩ := (h2.no hC).at_ k (by omega)
      cases hv; cases hv'
      iterate 2 (refine zc_seq ?_)
      refine zc_region ?_
      iterate 2 (refine zl_pureL rfl ?_)
      refine z_len want_none (by decide) rfl ?_
      refine z_cmpB (r := true) want_none (by decide) rfl rfl rfl (iff_of_true rfl (by omega)) ?_
      refine zl_nil ?_
      refine zk_seq ?_
      refine zc_true rfl ?_
      refine zc_skip ?_
      refine zk_seq ?_
      refine zc_seq ?_
      refine zc_block ?_
      refine zc_seq ?_
      refine zc_draw [] (fun w' => Chg w2 w' No) (.take 0 (.take 1 (.take 2 (.take 3 (.take 4 (.take 5 (.take 6 (.take 7 (.take 8 (.fin)))))))))) (by rfl) (by kernel_rfl) (by kernel_rfl) (fun w1 hC1 hH1 => ⟨?_, ?_⟩)
      · exact hC1
      iterate 2 (refine zs_take rfl (zt_pure rfl ?_))
      refine zs_rdL rfl want_none rfl (by decide) (fun _ hS => r_ia rfl rfl (by omega) (by omega)) ?_
      refine zs_rdL rfl (by first | exact want_none | exact want_L rfl) rfl (by decide) (fun _ hS => r_loadA (by rfl) rfl (agg2 (cell_no hS g0) (cell_no hS g1) (by omega))) ?_
      iterate 2 (refine zs_take rfl (zt_pure rfl ?_))
      refine zs_rdL rfl want_none rfl (by decide) (fun _ hS => r_ia rfl rfl (by omega) (by omega)) ?_
      refine zs_rdL rfl (by first | exact want_none | exact want_L rfl) rfl (by decide) (fun _ hS => r_loadA (by rfl) rfl (agg2 (cell_no hS g0') (cell_no hS g1') (by omega))) ?_
      refine zs_rdL rfl (by first | exact want_none | exact want_L rfl) rfl (by decide) (fun _ hS => r_neA rfl rfl (by kernel_rfl) (fun d => eq_attr d)) ?_
      have hC2 := hC.no hC1
      cases hq : (decide ((l1.getD k at0).1 = (l2.getD k at0).1) && (decide ((l1.getD k at0).2 = (l2.getD k at0).2) && true))
      · refine zs_fin ?_
        refine zk_seq ?_
        refine zc_true rfl ?_
        refine zc_seq ?_
        refine zc_region ?_
        refine zl_pureL rfl ?_
        refine zl_nil ?_
        refine zk_seq ?_
        refine zc_ret ?_
        refine zk_ret_block ?_
        iterate 2 (refine zk_ret_then ?_)
        refine zk_ret_block ?_
        refine zk_ret_then ?_
        refine zk_ret1 (.inr rfl) rfl rfl ⟨?_, hC2⟩
        have : ¬ l1 = l2 := fun h => by subst h; simp at hq
        rw [decide_eq_false this]
      · refine zs_fin ?_
        refine zk_seq ?_
        refine zc_false rfl ?_
        refine zc_skip ?_
        refine zk_norm_block ?_
        refine zk_seq ?_
        refine zc_region ?_
        refine zl_pureL rfl ?_
        refine z_add want_none (by decide) rfl rfl (by omega) (by omega) ?_
        refine zl_pureL rfl ?_
        refine zl_nil ?_
        refine zk_loopW (k + 1) ⟨by omega, hC2, ?_⟩ (by omega) ⟨rfl, rfl, get_int rfl (by omega), trivial⟩
        simp only [Bool.and_true, Bool.and_eq_true, decide_eq_true_eq] at hq
        rw [take_getD at0 hlt, take_getD at0 (by omega), hb, Prod.ext hq.1 hq.2]
    · obtain rfl : k = l1.length := by omega
      iterate 2 (refine zc_seq ?_)
      refine zc_region ?_
      iterate 2 (refine zl_pureL rfl ?_)
      refine z_len want_none (by decide) rfl ?_
      refine z_cmpB (r := false) want_none (by decide) rfl rfl rfl (iff_of_false Bool.false_ne_true (by omega)) ?_
      refine zl_nil ?_
      refine zk_seq ?_
      refine zc_false rfl ?_
      refine zc_exit ?_
      iterate 2 (refine zk_exit_then ?_)
      refine zk_exit_block ?_
      refine zk_seq ?_
      refine zc_seq ?_
      refine zc_region ?_
      refine zl_pureL rfl ?_
      refine zl_nil ?_
      refine zk_seq ?_
      refine zc_ret ?_
      refine zk_ret1 (.inr rfl) rfl rfl ⟨?_, hC⟩
      rw [List.take_length, hll, List.take_length] at hb
      rw [decide_eq_true hb]
/-- a slice of marks -/
def MS (w : World) (v : Value) (L : List Mark) : Prop := ∃ ms, RdS w 32 3 v ms.length (encM ms) ∧ All2 (MR w) ms L
section
variable {w w' : World} {v : Value} {L : List Mark} {B : Nat}
theorem Told.ms (h : Told w B v L) : MS w v L := by obtain ⟨ms, h1, h2, _⟩ := h; exact ⟨ms, h1.rd, h2⟩
theorem MS.no (h : MS w v L) (hc : Chg w w' No) : MS w' v L := by
  obtain ⟨ms, h1, h2⟩ := h
  exact ⟨ms, h1.no hc, h2.imp (fun a b ⟨h4, h5, h6⟩ => ⟨h4, h5, h6.no hc⟩)⟩
theorem MS.form (h : MS w v L) : ∃ A c, v = .slice A L.length c ∧ L.length ≤ c := by
  obtain ⟨ms, h1, h2⟩ := h
  have := h1.form
  rwa [h2.length] at this
theorem MS.at_ (h : MS w v L) (i : Nat) (hi : i < L.length) : ∃ b o c A, v = .slice (some ⟨b, o, none⟩) L.length c ∧ w.cell? ⟨b, o + i * 3, none⟩ = some (.int .i64 (L.getD i Mark.z).node) ∧ w.cell? ⟨b, o + i * 3 + 1, none⟩ = some (.string (L.getD i Mark.z).name) ∧
    w.cell? ⟨b, o + i * 3 + 2, none⟩ = some A ∧ AttrS w A (L.getD i Mark.z).attrs := by
  obtain ⟨ms, h1, h2⟩ := h
  have hlen := h2.length
  obtain ⟨b, o, c, hv, _, hc⟩ := h1.some (by omega)
  obtain ⟨g1, g2, g3⟩ := h2.get MV.z Mark.z i hi
  obtain ⟨e1, e2, e3⟩ := encM_get ms i (by omega)
  refine ⟨b, o, c, (ms.getD i MV.z).attrs, by rw [hv, hlen], ?_, ?_, ?_, g3⟩
  · rw [hc _ _ e1, g1]
  · rw [Nat.add_assoc, hc _ _ e2, g2]
  · rw [Nat.add_assoc, hc _ _ e3]
theorem MS.cut {A : Option Addr} {c k : Nat} (h : MS w (.slice A L.length c) L) (hk : k ≤ L.length) : MS w (.slice (cutA A c k 3) (L.length - k) (c - k)) (L.drop k) := by
  obtain ⟨ms, h1, h2⟩ := h
  have hlen := h2.length
  rw [hlen] at h1
  refine ⟨ms.drop k, ?_, h2.drop k⟩
  rw [encM_drop, List.length_drop, hlen]
  exact h1.cut hk
end
theorem Mark.ext' {a b : Mark} (h1 : a.node = b.node) (h2 : a.name = b.name) (h3 : a.attrs = b.attrs) : a = b := by
  cases a; cases b; simp_all
set_option maxHeartbeats 2000000 in
theorem same7_calls {w : World} {v1 v2 : Value} {l1 l2 : List Mark} (h1 : MS w v1 l1) (h2 : MS w v2 l2) (hl1 : l1.length ≤ 100000) (hl2 : l2.length ≤ 100000) (hf1 : ∀ m ∈ l1, m.attrs.length ≤ 100000) (hf2 : ∀ m ∈ l2, m.attrs.length ≤ 100000) :
    Calls Try.prog 24 [v1, v2].toArray w fun e w' => ∃ r, e = .returned (.bool r) ∧ (r = true ↔ l1 = l2) ∧ Chg w w' No := by
  obtain ⟨A1, c1, hv1, hc1⟩ := h1.form
  obtain ⟨A2, c2, hv2, hc2⟩ := h2.form
  subst hv1; subst hv2
  refine calls_zc (n := 55) (f := 24) (fn := Try.f24) Try.func24 rfl rfl (by simp) ?_
  refine zc_seq ?_
  refine zc_region ?_
  refine zl_pureL rfl ?_
  refine zl_nil ?_
  refine zk_seq ?_
  iterate 2 (refine zc_seq ?_)
  refine zc_region ?_
  refine zl_pureL rfl ?_
  refine z_len want_none (by decide) rfl ?_
  refine zl_pureL rfl ?_
  refine z_len want_none (by decide) rfl ?_
  refine z_cmp (by first | exact want_none | exact want_L rfl) (by decide) rfl rfl rfl (fun hc => ?_) (fun hc => ?_)
  · refine zl_nil ?_
    refine zk_seq ?_
    refine zc_true rfl ?_
    refine zc_seq ?_
    refine zc_region ?_
    refine zl_pureL rfl ?_
    refine zl_nil ?_
    refine zk_seq ?_
    refine zc_ret ?_
    refine zk_ret_then ?_
    exact zk_ret1 (.inr rfl) rfl rfl ⟨false, rfl, iff_of_false Bool.false_ne_true (fun h => by subst h; omega), Chg.refl _ _⟩
  · have hll : l1.length = l2.length := by omega
    refine zl_nil ?_
    refine zk_seq ?_
    refine zc_false rfl ?_
    refine zc_skip ?_
    refine zk_seq ?_
    iterate 2 (refine zc_seq ?_)
    refine zc_region ?_
    refine zl_pureL rfl ?_
    refine zl_nil ?_
    refine zk_seq ?_
    refine zc_block ?_
    refine zc_loopW (ι := Nat) (fun k u => [(0, .slice A1 l1.length c1), (1, .slice A2 l2.length c2), (5, .int .i64 k)])
      (fun k u => k ≤ l1.length ∧ Chg w u No ∧ l1.take k = l2.take k) (fun k u => l1.length - k) 0 ⟨Nat.zero_le _, Chg.refl _ _, rfl⟩ ?_ ?_
    · exact ⟨rfl, rfl, rfl, trivial⟩
    rintro k w2 ⟨hk, hC, hb⟩
    by_cases hlt : k < l1.length
    · obtain ⟨b, o, c', B1, hv, g0, g1, g2, ga⟩ := (h1.no hC).at_ k hlt
      obtain ⟨b', o', c'', B2, hv', g0', g1', g2', ga'⟩ := (h2.no hC).at_ k (by omega)
      cases hv; cases hv'
      have hx1 := hf1 _ (getD_mem (d := Mark.z) hlt)
      have hx2 := hf2 _ (getD_mem (d := Mark.z) (show k < l2.length by omega))
      generalize hx : l1.getD k Mark.z = x at *
      generalize hy : l2.getD k Mark.z = y at *
      have hno : ¬ x = y → ¬ l1 = l2 := fun hn h => by subst h; exact hn (hx.symm.trans hy)
      iterate 2 (refine zc_seq ?_)
      refine zc_region ?_
      iterate 2 (refine zl_pureL rfl ?_)
      refine z_len want_none (by decide) rfl ?_
      refine z_cmpB (r := true) want_none (by decide) rfl rfl rfl (iff_of_true rfl (by omega)) ?_
      refine zl_nil ?_
      refine zk_seq ?_
      refine zc_true rfl ?_
      refine zc_skip ?_
      refine zk_seq ?_
      refine zc_seq ?_
      refine zc_block ?_
      refine zc_seq ?_
      refine zc_draw [] (fun w' => Chg w2 w' No) (.take 0 (.take 1 (.take 2 (.take 3 (.take 4 (.take 5 (.take 6 (.take 7 (.take 8 (.take 9 (.take 10 (.take 11 (.take 12 (.take 13 (.take 14 (.take 15 (.take 16 (.take 17 (.take 18 (.take 19 (.take 20 (.take 21 (.take 22 (.take 23 (.take 24 (.take 25 (.take 26 (.take 27 (.take 28 (.take 29 (.take 30 (.take 31 (.take 32 (.take 33 (.take 34 (.all1 35 (.take 36 (.take 37 (.fin))))))))))))))))))))))))))))))))))))))) (by rfl) (by kernel_rfl) (by kernel_rfl) (fun w1 hC1 hH1 => ⟨?_, ?_⟩)
      · exact hC1
      iterate 2 (refine zs_take rfl (zt_pure rfl ?_))
      refine zs_rdL rfl want_none rfl (by decide) (fun _ hS => r_ia rfl rfl (by omega) (by omega)) ?_
      refine zs_rdL rfl want_none rfl (by decide) (fun _ hS => r_fa rfl) ?_
      refine zs_rdL rfl (by first | exact want_none | exact want_L rfl) rfl (by decide) (fun _ hS => r_load1 rfl (cell_at (cell_no hS g0) (by omega))) ?_
      iterate 2 (refine zs_take rfl (zt_pure rfl ?_))
      refine zs_rdL rfl want_none rfl (by decide) (fun _ hS => r_ia rfl rfl (by omega) (by omega)) ?_
      refine zs_rdL rfl want_none rfl (by decide) (fun _ hS => r_fa rfl) ?_
      refine zs_rdL rfl (by first | exact want_none | exact want_L rfl) rfl (by decide) (fun _ hS => r_load1 rfl (cell_at (cell_no hS g0') (by omega))) ?_
      have hC2 := hC.no hC1
      refine zs_cmp rfl (by first | exact want_none | exact want_L rfl) (by decide) rfl rfl rfl (fun hc => ?_) (fun hc => ?_)
      · iterate 3 (refine zs_take rfl (zt_pure rfl ?_))
        iterate 3 (refine zs_take rfl (zt_skip rfl ?_))
        iterate 2 (refine zs_take rfl (zt_pure rfl ?_))
        iterate 4 (refine zs_take rfl (zt_skip rfl ?_))
        iterate 4 (refine zs_take rfl (zt_pure rfl ?_))
        iterate 3 (refine zs_take rfl (zt_skip rfl ?_))
        iterate 2 (refine zs_take rfl (zt_pure rfl ?_))
        iterate 3 (refine zs_take rfl (zt_skip rfl ?_))
        refine zs_alone rfl (za_skip rfl ?_)
        iterate 2 (refine zs_take rfl (zt_pure rfl ?_))
        refine zs_fin ?_
        refine zk_seq ?_
        refine zc_true rfl ?_
        refine zc_seq ?_
        refine zc_region ?_
        refine zl_pureL rfl ?_
        refine zl_nil ?_
        refine zk_seq ?_
        refine zc_ret ?_
        refine zk_ret_block ?_
        iterate 2 (refine zk_ret_then ?_)
        refine zk_ret_block ?_
        refine zk_ret_then ?_
        exact zk_ret1 (.inr rfl) rfl rfl ⟨false, rfl, iff_of_false Bool.false_ne_true (hno (fun h => hc (by rw [h]))), hC2⟩
      · iterate 3 (refine zs_take rfl (zt_pure rfl ?_))
        refine zs_rdL rfl (want_L rfl) rfl (by decide) (fun _ hS => r_ia rfl rfl (by omega) (by omega)) ?_
        refine zs_rdL rfl (want_L rfl) rfl (by decide) (fun _ hS => r_fa rfl) ?_
        refine zs_rdL rfl (by first | exact want_none | exact want_L rfl) rfl (by decide) (fun _ hS => r_load1 rfl (cell_at (cell_no hS g1) (by omega))) ?_
        iterate 2 (refine zs_take rfl (zt_pure rfl ?_))
        refine zs_rdL rfl (want_L rfl) rfl (by decide) (fun _ hS => r_ia rfl rfl (by omega) (by omega)) ?_
        refine zs_rdL rfl (want_L rfl) rfl (by decide) (fun _ hS => r_fa rfl) ?_
        refine zs_rdL rfl (by first | exact want_none | exact want_L rfl) rfl (by decide) (fun _ hS => r_load1 rfl (cell_at (cell_no hS g1') (by omega))) ?_
        refine zs_neS rfl (by first | exact want_none | exact want_L rfl) (by decide) rfl rfl (fun hc => ?_) (fun hc => ?_)
        · iterate 4 (refine zs_take rfl (zt_pure rfl ?_))
          iterate 3 (refine zs_take rfl (zt_skip rfl ?_))
          iterate 2 (refine zs_take rfl (zt_pure rfl ?_))
          iterate 3 (refine zs_take rfl (zt_skip rfl ?_))
          refine zs_alone rfl (za_skip rfl ?_)
          iterate 2 (refine zs_take rfl (zt_pure rfl ?_))
          refine zs_fin ?_
          refine zk_seq ?_
          refine zc_true rfl ?_
          refine zc_seq ?_
          refine zc_region ?_
          refine zl_pureL rfl ?_
          refine zl_nil ?_
          refine zk_seq ?_
          refine zc_ret ?_
          refine zk_ret_block ?_
          iterate 2 (refine zk_ret_then ?_)
          refine zk_ret_block ?_
          refine zk_ret_then ?_
          exact zk_ret1 (.inr rfl) rfl rfl ⟨false, rfl, iff_of_false Bool.false_ne_true (hno (fun h => hc (by rw [h]))), hC2⟩
        · iterate 4 (refine zs_take rfl (zt_pure rfl ?_))
          refine zs_rdL rfl (want_L rfl) rfl (by decide) (fun _ hS => r_ia rfl rfl (by omega) (by omega)) ?_
          refine zs_rdL rfl (want_L rfl) rfl (by decide) (fun _ hS => r_fa rfl) ?_
          refine zs_rdL rfl (by first | exact want_none | exact want_L rfl) rfl (by decide) (fun _ hS => r_load1 rfl (cell_at (cell_no hS g2) (by omega))) ?_
          iterate 2 (refine zs_take rfl (zt_pure rfl ?_))
          refine zs_rdL rfl (want_L rfl) rfl (by decide) (fun _ hS => r_ia rfl rfl (by omega) (by omega)) ?_
          refine zs_rdL rfl (want_L rfl) rfl (by decide) (fun _ hS => r_fa rfl) ?_
          refine zs_rdL rfl (by first | exact want_none | exact want_L rfl) rfl (by decide) (fun _ hS => r_load1 rfl (cell_at (cell_no hS g2') (by omega))) ?_
          refine zs_call rfl (by first | exact want_none | exact want_L rfl) rfl (by decide) rfl (alike_calls (ga.no hC1) (ga'.no hC1) hx1 hx2) ?_
          rintro _ w5 ⟨rfl, hC5⟩
          refine ⟨_, rfl, hC1.no hC5, ?_⟩
          have hC3 := hC2.no hC5
          by_cases hq : x.attrs = y.attrs
          · rw [decide_eq_true hq]
            iterate 2 (refine zs_take rfl (zt_pure rfl ?_))
            refine zs_fin ?_
            refine zk_seq ?_
            refine zc_false rfl ?_
            refine zc_skip ?_
            refine zk_norm_block ?_
            refine zk_seq ?_
            refine zc_region ?_
            refine zl_pureL rfl ?_
            refine z_add want_none (by decide) rfl rfl (by omega) (by omega) ?_
            refine zl_pureL rfl ?_
            refine zl_nil ?_
            refine zk_loopW (k + 1) ⟨by omega, hC3, ?_⟩ (by omega) ⟨rfl, rfl, get_int rfl (by omega), trivial⟩
            rw [take_getD Mark.z hlt, take_getD Mark.z (by omega), hb, hx, hy, Mark.ext' (by omega) ‹_› hq]
          · rw [decide_eq_false hq]
            iterate 2 (refine zs_take rfl (zt_pure rfl ?_))
            refine zs_fin ?_
            refine zk_seq ?_
            refine zc_true rfl ?_
            refine zc_seq ?_
            refine zc_region ?_
            refine zl_pureL rfl ?_
            refine zl_nil ?_
            refine zk_seq ?_
            refine zc_ret ?_
            refine zk_ret_block ?_
            iterate 2 (refine zk_ret_then ?_)
            refine zk_ret_block ?_
            refine zk_ret_then ?_
            exact zk_ret1 (.inr rfl) rfl rfl ⟨false, rfl, iff_of_false Bool.false_ne_true (hno (fun h => hq (by rw [h]))), hC3⟩
    · obtain rfl : k = l1.length := by omega
      iterate 2 (refine zc_seq ?_)
      refine zc_region ?_
      iterate 2 (refine zl_pureL rfl ?_)
      refine z_len want_none (by decide) rfl ?_
      refine z_cmpB (r := false) want_none (by decide) rfl rfl rfl (iff_of_false Bool.false_ne_true (by omega)) ?_
      refine zl_nil ?_
      refine zk_seq ?_
      refine zc_false rfl ?_
      refine zc_exit ?_
      iterate 2 (refine zk_exit_then ?_)
      refine zk_exit_block ?_
      refine zk_seq ?_
      refine zc_seq ?_
      refine zc_region ?_
      refine zl_pureL rfl ?_
      refine zl_nil ?_
      refine zk_seq ?_
      refine zc_ret ?_
      refine zk_ret1 (.inr rfl) rfl rfl ⟨true, rfl, iff_of_true rfl ?_, hC⟩
      rw [List.take_length, hll, List.take_length] at hb
      exact hb
end Go.Proofs.Ytaagolhokejflaa.M
