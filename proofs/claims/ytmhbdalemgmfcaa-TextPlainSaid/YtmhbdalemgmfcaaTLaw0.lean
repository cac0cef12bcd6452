import Derived.Test.YtmhbdalemgmfcaaTPlain
import Derived.Test.YtmhbdalemgmfcaaTFold
import Derived.Test.YtmhbdalemgmfcaaTWhole
/- What the laws share: known, within, bytes that are handed in. -/
namespace Go.Proofs.Ytmhbdalemgmfcaa.T
open Go Go.Z Go.Proofs
set_option linter.unusedVariables false
theorem tmod_emod (a : Int) (n : Nat) (hn : 0 < n) : (0 ≤ a.tmod n ∧ a.tmod n = a % n ∧ a.tmod n < n) ∨ (a.tmod n < 0 ∧ a.tmod n + n = a % n ∧ -(n : Int) < a.tmod n) := by
  have h1 := Int.emod_nonneg a (show (n : Int) ≠ 0 by omega)
  have h2 := Int.emod_lt_of_pos a (show (0 : Int) < n by omega)
  have h3 := Int.tmod_lt_of_pos a (show (0 : Int) < n by omega)
  have h4 : -(n : Int) < a.tmod n := by
    have := Int.tmod_lt_of_pos (-a) (show (0 : Int) < n by omega)
    rw [Int.neg_tmod] at this; omega
  have h5 : ((n : Int)) ∣ (a % n - a.tmod n) := by
    have e1 := Int.emod_add_mul_ediv a n
    have e2 := Int.tmod_add_mul_tdiv a n
    refine ⟨a.tdiv n - a / n, ?_⟩
    rw [Int.mul_sub]; omega
  obtain ⟨q, hq⟩ := h5
  have hq0 : -1 < q := by
    apply Int.lt_of_not_ge; intro hge
    have : (n : Int) * q ≤ (n : Int) * (-1) := Int.mul_le_mul_of_nonneg_left hge (by omega)
    omega
  have hq1 : q < 2 := by
    apply Int.lt_of_not_ge; intro hge
    have : (n : Int) * 2 ≤ (n : Int) * q := Int.mul_le_mul_of_nonneg_left hge (by omega)
    omega
  have : q = 0 ∨ q = 1 := by omega
  rcases this with rfl | rfl
  · left; omega
  · right; omega
theorem within_calls {w : World} {a : Int} {n : Nat} (hn : 0 < n) (hn2 : n ≤ 1000000000) :
    Calls Try.prog 19 [.int .i64 a, .int .i64 n].toArray w fun e w' => e = .returned (.int .i64 (a % n)) ∧ w' = w := by
  have hm := tmod_emod a n hn
  refine calls_zc (n := 15) (f := 19) (fn := Try.f19) Try.func19 rfl rfl (by simp) ?_
  refine zc_seq ?_
  refine zc_region ?_
  refine zl_pureL rfl ?_
  refine zl_nil ?_
  refine zk_seq ?_
  refine zc_seq ?_
  refine zc_region ?_
  iterate 2 (refine zl_pureL rfl ?_)
  refine z_rem (by first | exact want_none | exact want_L rfl) (by decide) rfl rfl (by omega) ?_
  refine zl_pureL rfl ?_
  refine zl_nil ?_
  refine zk_seq ?_
  iterate 2 (refine zc_seq ?_)
  refine zc_region ?_
  refine zl_pureL rfl ?_
  rcases hm with ⟨h1, h2, h3⟩ | ⟨h1, h2, h3⟩
  · refine z_cmpB (r := false) want_none (by decide) rfl rfl rfl (iff_of_false Bool.false_ne_true (by omega)) ?_
    refine zl_nil ?_
    refine zk_seq ?_
    refine zc_false rfl ?_
    refine zc_skip ?_
    refine zk_seq ?_
    refine zc_seq ?_
    refine zc_region ?_
    iterate 2 (refine zl_pureL rfl ?_)
    refine zl_nil ?_
    refine zk_seq ?_
    refine zc_ret ?_
    exact zk_ret1 (.inr rfl) rfl rfl ⟨by rw [h2], rfl⟩
  · refine z_cmpB (r := true) want_none (by decide) rfl rfl rfl (iff_of_true rfl (by omega)) ?_
    refine zl_nil ?_
    refine zk_seq ?_
    refine zc_true rfl ?_
    refine zc_region ?_
    iterate 2 (refine zl_pureL rfl ?_)
    refine z_add want_none (by decide) rfl rfl (by omega) (by omega) ?_
    refine zl_pureL rfl ?_
    refine zl_nil ?_
    refine zk_seq ?_
    refine zc_seq ?_
    refine zc_region ?_
    iterate 2 (refine zl_pureL rfl ?_)
    refine zl_nil ?_
    refine zk_seq ?_
    refine zc_ret ?_
    exact zk_ret1 (.inr rfl) rfl rfl ⟨by rw [h2], rfl⟩
theorem RB.new {w w' : World} {b el : Nat} {l : List UInt8} {cs : List Value} (h : New w w' b el cs) (hc : cs = cellsB l) (n : Nat) (hn : n = l.length) : RB w' (.slice (some ⟨b, 0, none⟩) n n) l := by
  subst hc; subst hn
  exact ⟨_, _, rfl, Nat.le_refl _, fun _ => ⟨b, 0, rfl, fun i hi => by rw [Nat.zero_add, h.blk.cell, cellsB_at l i hi]⟩⟩
theorem known_val : decode [226, 130, 65] = [239, 191, 189, 65] ∧ linesN [97, 13, 13, 10] = [97, 10, 10] ∧ plainN [32, 97, 32, 9, 32, 98] = [97, 32, 98] ∧ foldN [65, 122] = [97, 122] := by
  refine ⟨?_, ?_, ?_, ?_⟩ <;> decide +kernel
theorem known_calls {w : World} : Calls Try.prog 13 [].toArray w fun e w' => e = .returned (.bool true) ∧ Chg w w' No := by
  obtain ⟨k1, k2, k3, k4⟩ := known_val
  refine calls_zc (n := 16) (f := 13) (fn := Try.f13) Try.func13 rfl rfl (by simp) ?_
  refine zc_seq ?_
  refine zc_region ?_
  refine zl_pureL rfl ?_
  refine zl_nil ?_
  refine zk_seq ?_
  refine zc_seq ?_
  refine zc_region ?_
  refine z_bsE [.int .u8 226, .int .u8 130, .int .u8 65] (by first | exact want_none | exact want_L rfl) (by decide) rfl (by decide) (by decide) (by kernel_rfl) (fun w1 b1 hN1 => ?_)
  refine zl_call (by first | exact want_none | exact want_L rfl) rfl (by decide) rfl (decode_calls (RB.new hN1 (l := [226, 130, 65]) rfl 3 rfl) (by decide)) ?_
  rintro _ w2 ⟨rfl, hC2⟩
  refine ⟨_, rfl, ?_⟩
  rw [k1]
  refine z_eqLB (l := [239, 191, 189, 65]) (r := [239, 191, 189, 65]) (q := true) (by first | exact want_none | exact want_L rfl) (by decide) rfl rfl (iff_of_true rfl rfl) ?_
  refine zl_pureL rfl ?_
  refine zl_call (by first | exact want_none | exact want_L rfl) rfl (by decide) rfl (lines_calls (l := [97, 13, 13, 10]) (by decide)) ?_
  rintro _ w3 ⟨rfl, hC3⟩
  refine ⟨_, rfl, ?_⟩
  rw [k2]
  refine z_eqLB (l := [97, 10, 10]) (r := [97, 10, 10]) (q := true) (by first | exact want_none | exact want_L rfl) (by decide) rfl rfl (iff_of_true rfl rfl) ?_
  iterate 2 (refine zl_pureL rfl ?_)
  refine zl_call (by first | exact want_none | exact want_L rfl) rfl (by decide) rfl (plain_calls (l := [32, 97, 32, 9, 32, 98]) (by decide)) ?_
  rintro _ w4 ⟨rfl, hC4⟩
  refine ⟨_, rfl, ?_⟩
  rw [k3]
  refine z_eqLB (l := [97, 32, 98]) (r := [97, 32, 98]) (q := true) (by first | exact want_none | exact want_L rfl) (by decide) rfl rfl (iff_of_true rfl rfl) ?_
  iterate 2 (refine zl_pureL rfl ?_)
  refine zl_call (by first | exact want_none | exact want_L rfl) rfl (by decide) rfl (fold_calls (l := [65, 122]) (by decide)) ?_
  rintro _ w5 ⟨rfl, hC5⟩
  refine ⟨_, rfl, ?_⟩
  rw [k4]
  refine z_eqLB (l := [97, 122]) (r := [97, 122]) (q := true) (by first | exact want_none | exact want_L rfl) (by decide) rfl rfl (iff_of_true rfl rfl) ?_
  iterate 2 (refine zl_pureL rfl ?_)
  refine zl_nil ?_
  refine zk_seq ?_
  refine zc_ret ?_
  exact zk_ret1 (.inr rfl) rfl rfl ⟨rfl, (((hN1.chg.no hC2).no hC3).no hC4).no hC5⟩
/-- a row of numbers that is handed in -/
def IsRow (k : IntKind) (w : World) (a : Option Addr) (len cap : Nat) (zs : List Int) : Prop :=
  (a = none ∧ len = 0 ∧ cap = 0 ∧ zs = []) ∨
  ∃ x, a = some x ∧ len ≤ cap ∧ cap ≤ maxLen ∧ zs.length = cap ∧ (∀ i, i < zs.length → w.cell? (x.add i) = some (.int k (zs.getD i 0))) ∧ ∀ n ∈ zs, (Lit.int k n).wf = true
theorem IsRow.rb {w : World} {a : Option Addr} {len cap : Nat} {zs : List Int} (h : IsRow .u8 w a len cap zs) : ∃ l : List UInt8, l.length = len ∧ RB w (.slice a len cap) l := by
  rcases h with ⟨rfl, rfl, rfl, rfl⟩ | ⟨x, rfl, h1, h2, h3, h4, h5⟩
  · exact ⟨[], rfl, none, 0, rfl, Nat.le_refl _, fun h => absurd h (Nat.lt_irrefl 0)⟩
  · refine ⟨(zs.take len).map (fun z => UInt8.ofNat z.toNat), by simp; omega, some x, cap, by simp [show min len zs.length = len by omega], by simp; omega, fun hl => ?_⟩
    have h0 := h4 0 (by simp at hl; omega)
    have hx : x.add 0 = x := by unfold Addr.add; rw [if_pos rfl]
    rw [hx] at h0
    obtain ⟨b, o, s⟩ := x
    have hs : s = none := by
      unfold World.cell? at h0
      split at h0
      · split at h0
        · cases h0
        · rename_i hn; simpa using hn
      · cases h0
    subst hs
    refine ⟨b, o, rfl, fun i hi => ?_⟩
    have hi' : i < zs.length := by simp at hi; omega
    have hil : i < len := by simp at hi; omega
    have h6 := h4 i hi'
    rw [addr_add] at h6
    have hw := h5 (zs.getD i 0) (by rw [List.getD_eq_getElem?_getD, List.getElem?_eq_getElem hi']; exact List.getElem_mem hi')
    have hb : 0 ≤ zs.getD i 0 ∧ zs.getD i 0 ≤ 255 := by
      simp only [Lit.wf, IntKind.min, IntKind.max, IntKind.signed, IntKind.bits] at hw
      simp at hw ⊢; omega
    have e1 : zs.getD i 0 = zs[i] := by rw [List.getD_eq_getElem?_getD, List.getElem?_eq_getElem hi']; rfl
    have e2 : ((zs.take len).map (fun z => UInt8.ofNat z.toNat)).getD i 0 = UInt8.ofNat zs[i].toNat := by
      rw [List.getD_eq_getElem?_getD (l := (zs.take len).map _), List.getElem?_map, List.getElem?_take, if_pos hil, List.getElem?_eq_getElem hi']; rfl
    rw [h6, e2, e1]
    rw [e1] at hb
    congr 2
    simp
    omega
end Go.Proofs.Ytmhbdalemgmfcaa.T
