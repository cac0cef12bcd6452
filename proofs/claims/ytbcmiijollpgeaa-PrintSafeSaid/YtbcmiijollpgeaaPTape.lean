import Derived.Test.YtbcmiijollpgeaaPWords
/- A tape of numbers. -/
namespace Go.Proofs.Ytbcmiijollpgeaa.T
open Go Go.Z Go.Proofs
set_option linter.unusedVariables false
/-- a row of numbers that is handed in -/
def IsRow (k : IntKind) (w : World) (a : Option Addr) (len cap : Nat) (zs : List Int) : Prop :=
  (a = none ∧ len = 0 ∧ cap = 0 ∧ zs = []) ∨
  ∃ x, a = some x ∧ len ≤ cap ∧ cap ≤ maxLen ∧ zs.length = cap ∧ (∀ i, i < zs.length → w.cell? (x.add i) = some (.int k (zs.getD i 0))) ∧ ∀ n ∈ zs, (Lit.int k n).wf = true
theorem IsRow.le {k : IntKind} {w : World} {a : Option Addr} {len cap : Nat} {zs : List Int} (h : IsRow k w a len cap zs) : len ≤ cap ∧ cap ≤ 9223372036854775807 ∧ zs.length = cap := by
  rcases h with ⟨rfl, rfl, rfl, rfl⟩ | ⟨x, rfl, h1, h2, h3, _⟩
  · exact ⟨Nat.le_refl _, by decide, rfl⟩
  · exact ⟨h1, by simpa [maxLen] using h2, h3⟩
theorem IsRow.at_ {k : IntKind} {w : World} {a : Option Addr} {len cap : Nat} {zs : List Int} (h : IsRow k w a len cap zs) (i : Nat) (hi : i < len) : ∃ b o, a = some ⟨b, o, none⟩ ∧ w.cell? ⟨b, o + i, none⟩ = some (.int k (zs.getD i 0)) := by
  rcases h with ⟨rfl, rfl, rfl, rfl⟩ | ⟨x, rfl, h1, h2, h3, h4, h5⟩
  · omega
  · have h0 := h4 0 (by omega)
    have hx : x.add 0 = x := by unfold Addr.add; rw [if_pos rfl]
    rw [hx] at h0
    obtain ⟨b, o, s⟩ := x
    have hs : s = none := by
      unfold World.cell? at h0
      split at h0
      · split at h0
        · cases h0
        · rename_i hn; simpa using hn
      · cases h0
    subst hs
    refine ⟨b, o, rfl, ?_⟩
    have := h4 i (by omega)
    rwa [addr_add] at this
theorem within1_calls {w : World} {a : Int} {n : Nat} (hn : 0 < n) (hn2 : n ≤ 1000000000000) :
    Calls Try.prog 37 [.int .i64 a, .int .i64 n].toArray w fun e w' => e = .returned (.int .i64 (a % n)) ∧ w' = w := by
  have hm := tmod_emod a n hn
  refine calls_zc (n := 15) (f := 37) (fn := Try.f37) Try.func37 rfl rfl (by simp) ?_
  refine zc_seq ?_
  refine zc_region ?_
  refine zl_pureL rfl ?_
  refine zl_nil ?_
  refine zk_seq ?_
  refine zc_seq ?_
  refine zc_region ?_
  iterate 2 (refine zl_pureL rfl ?_)
  refine z_rem (by first | exact want_none | exact want_L rfl) (by decide) rfl rfl (by omega) ?_
  refine zl_pureL rfl ?_
  refine zl_nil ?_
  refine zk_seq ?_
  iterate 2 (refine zc_seq ?_)
  refine zc_region ?_
  refine zl_pureL rfl ?_
  rcases hm with ⟨h1, h2, h3⟩ | ⟨h1, h2, h3⟩
  · refine z_cmpB (r := false) want_none (by decide) rfl rfl rfl (iff_of_false Bool.false_ne_true (by omega)) ?_
    refine zl_nil ?_
    refine zk_seq ?_
    refine zc_false rfl ?_
    refine zc_skip ?_
    refine zk_seq ?_
    refine zc_seq ?_
    refine zc_region ?_
    iterate 2 (refine zl_pureL rfl ?_)
    refine zl_nil ?_
    refine zk_seq ?_
    refine zc_ret ?_
    exact zk_ret1 (.inr rfl) rfl rfl ⟨by rw [h2], rfl⟩
  · refine z_cmpB (r := true) want_none (by decide) rfl rfl rfl (iff_of_true rfl (by omega)) ?_
    refine zl_nil ?_
    refine zk_seq ?_
    refine zc_true rfl ?_
    refine zc_region ?_
    iterate 2 (refine zl_pureL rfl ?_)
    refine z_add want_none (by decide) rfl rfl (by omega) (by omega) ?_
    refine zl_pureL rfl ?_
    refine zl_nil ?_
    refine zk_seq ?_
    refine zc_seq ?_
    refine zc_region ?_
    iterate 2 (refine zl_pureL rfl ?_)
    refine zl_nil ?_
    refine zk_seq ?_
    refine zc_ret ?_
    exact zk_ret1 (.inr rfl) rfl rfl ⟨by rw [h2], rfl⟩
/-- a tape in block bt, made since a heap of size B; its numbers lie below B -/
structure Tp (w : World) (B bt : Nat) : Prop where
  ex : ∃ w0 a len cap zs, ∃ i : Nat, w0.heap.size ≤ B ∧ Blk w bt 30 [.slice a len cap, .int .i64 i] ∧ IsRow .i64 w0 a len cap zs ∧ Chg w0 w (fun k => B ≤ k) ∧ i ≤ len
  ge : B ≤ bt
theorem Tp.blk {w : World} {B bt : Nat} (h : Tp w B bt) : ∃ cs, Blk w bt 30 cs := by obtain ⟨w0, a, len, cap, zs, i, _, h1, _⟩ := h.ex; exact ⟨_, h1⟩
theorem Tp.lt {w : World} {B bt : Nat} (h : Tp w B bt) : bt < w.heap.size := by obtain ⟨_, h1⟩ := h.blk; exact h1.lt
theorem Tp.oth {w w' : World} {B bt : Nat} {S : Nat → Prop} (h : Tp w B bt) (hc : Chg w w' S) (h1 : ¬ S bt) (h2 : ∀ k, k < w.heap.size → S k → B ≤ k) : Tp w' B bt := by
  obtain ⟨w0, a, len, cap, zs, i, h3, h4, h5, h6, h7⟩ := h.ex
  exact ⟨⟨w0, a, len, cap, zs, i, h3, h4.chg hc h1, h5, h6.trans hc (fun k hk hs => h2 k (by have := h6.size; omega) hs), h7⟩, h.ge⟩
theorem Tp.no {w w' : World} {B bt : Nat} (h : Tp w B bt) (hc : Chg w w' No) : Tp w' B bt := h.oth hc id (fun _ _ h => h.elim)
theorem cell_chg {w w' : World} {S : Nat → Prop} {b o : Nat} {v : Value} (hc : Chg w w' S) (hn : ¬ S b) (h : w.cell? ⟨b, o, none⟩ = some v) : w'.cell? ⟨b, o, none⟩ = some v := by
  have hlt : b < w.heap.size := by
    rcases Nat.lt_or_ge b w.heap.size with h1 | h1
    · exact h1
    · simp [World.cell?, Array.getElem?_eq_none h1] at h
  have := hc.same b hlt hn
  simp only [World.cell?, this] at h ⊢
  exact h
theorem next_calls {w : World} {B bt : Nat} (h : Tp w B bt) (n : Nat) (hn : 0 < n) (hn2 : n ≤ 1000000000000) {ni : Int} (hni : ni = (n : Int)) :
    Calls Try.prog 22 [.pointer (some ⟨bt, 0, none⟩), .int .i64 ni].toArray w fun e w' => (∃ k : Nat, k < n ∧ e = .returned (.int .i64 k)) ∧ Tp w' B bt ∧ Chg w w' (· = bt) := by
  subst hni
  obtain ⟨w0, a, len, cap, zs, i, hw0, hb, hrow, hC0, hat⟩ := h.ex
  have hge := h.ge
  obtain ⟨hlc, hcm, _⟩ := hrow.le
  refine calls_zc (n := 35) (f := 22) (fn := Try.f22) Try.func22 rfl rfl (by simp) ?_
  refine zc_seq ?_
  refine zc_region ?_
  refine zl_pureL rfl ?_
  refine zl_nil ?_
  refine zk_seq ?_
  iterate 2 (refine zc_seq ?_)
  refine zc_draw [] (fun w' => Blk w' bt 30 [.slice a len cap, .int .i64 i]) (.take 0 (.take 1 (.take 2 (.take 3 (.take 4 (.take 5 (.take 6 (.take 7 (.take 8 (.take 9 (.fin))))))))))) (by rfl) (by kernel_rfl) (by kernel_rfl) (fun w1 hC1 _ => ⟨?_, ?_⟩)
  · exact hb.no hC1
  have hb1 := hb.no hC1
  have h01 := hC0.no hC1
  iterate 2 (refine zs_take rfl (zt_pure rfl ?_))
  refine zs_rdL rfl want_none rfl (by decide) (fun _ hS => r_fa rfl) ?_
  refine zs_rdL rfl want_none rfl (by decide) (fun _ hS => r_loadB rfl hS (by rfl)) ?_
  iterate 2 (refine zs_take rfl (zt_pure rfl ?_))
  refine zs_rdL rfl want_none rfl (by decide) (fun _ hS => r_fa rfl) ?_
  refine zs_rdL rfl want_none rfl (by decide) (fun _ hS => r_loadB rfl hS (by rfl)) ?_
  refine zs_rdL rfl want_none rfl (by decide) (fun _ hS => r_len rfl) ?_
  by_cases hlt : i < len
  · refine zs_rdL rfl want_none rfl (by decide) (fun _ hS => r_cmpB (r := false) rfl rfl rfl (iff_of_false Bool.false_ne_true (by omega))) ?_
    refine zs_fin ?_
    refine zk_seq ?_
    refine zc_false rfl ?_
    refine zc_skip ?_
    refine zk_seq ?_
    refine zc_seq ?_
    refine zc_region ?_
    iterate 2 (refine zl_pureL rfl ?_)
    refine z_fa want_none (by decide) rfl ?_
    refine z_loadB want_none (by decide) rfl (by assumption) (by rfl) ?_
    refine z_add want_none (by decide) rfl rfl (by omega) (by omega) ?_
    refine zl_pureL rfl ?_
    refine z_fa want_none (by decide) rfl ?_
    refine z_store (by first | exact want_none | exact want_L rfl) rfl rfl rfl (by assumption) (by first | exact Nat.le_refl _ | simp [Value.cells]) (by simp [Value.cells, Value.oneCell']) (fun w2 hU2 => ?_)
    have h2 : Blk w2 bt 30 [.slice a len cap, .int .i64 (i + 1)] := hU2.blk
    obtain ⟨b, o, ha, hc⟩ := hrow.at_ i hlt
    subst ha
    have hblt : b < w0.heap.size := by
      rcases Nat.lt_or_ge b w0.heap.size with h1 | h1
      · exact h1
      · simp [World.cell?, Array.getElem?_eq_none h1] at hc
    have h02 : Chg w0 w2 (fun k => B ≤ k) := h01.trans hU2.chg (fun k _ hk => by subst hk; exact hge)
    have hc2 := cell_chg h02 (by omega) hc
    refine zl_nil ?_
    refine zk_seq ?_
    refine zc_seq ?_
    refine zc_draw [] (fun w' => Chg w2 w' No ∧ Blk w' bt 30 [.slice (some ⟨b, o, none⟩) len cap, .int .i64 (i + 1)]) (.take 0 (.take 1 (.take 2 (.take 3 (.take 4 (.take 5 (.take 6 (.take 7 (.take 8 (.take 9 (.take 10 (.take 11 (.all1 12 (.take 13 (.fin))))))))))))))) (by rfl) (by kernel_rfl) (by kernel_rfl) (fun w3 hC3 _ => ⟨?_, ?_⟩)
    · exact ⟨hC3, h2.no hC3⟩
    iterate 2 (refine zs_take rfl (zt_pure rfl ?_))
    refine zs_rdL rfl want_none rfl (by decide) (fun _ hS => r_fa rfl) ?_
    refine zs_rdL rfl want_none rfl (by decide) (fun _ hS => r_loadB rfl hS.2 (by rfl)) ?_
    iterate 2 (refine zs_take rfl (zt_pure rfl ?_))
    refine zs_rdL rfl want_none rfl (by decide) (fun _ hS => r_fa rfl) ?_
    refine zs_rdL rfl want_none rfl (by decide) (fun _ hS => r_loadB rfl hS.2 (by rfl)) ?_
    refine zs_rdL rfl want_none rfl (by decide) (fun _ hS => r_sub rfl rfl (by omega) (by omega)) ?_
    refine zs_rdL rfl want_none rfl (by decide) (fun _ hS => r_ia rfl rfl (by omega) (by omega)) ?_
    refine zs_rdL rfl (by first | exact want_none | exact want_L rfl) rfl (by decide) (fun _ hS => r_load1 rfl (cell_at (cell_keep hS.1 hc2) (by omega))) ?_
    refine zs_take rfl (zt_pure rfl ?_)
    refine zs_call rfl (by first | exact want_none | exact want_L rfl) rfl (by decide) rfl (within1_calls (n := n) hn hn2) ?_
    rintro _ w4 ⟨rfl, hw4⟩
    obtain rfl := hw4.symm
    refine ⟨_, rfl, ⟨hC3, h2.no hC3⟩, ?_⟩
    have hm0 := Int.emod_nonneg (zs.getD i 0) (show (n : Int) ≠ 0 by omega)
    have hm1 := Int.emod_lt_of_pos (zs.getD i 0) (show (0 : Int) < n by omega)
    refine zs_take rfl (zt_pure rfl ?_)
    refine zs_fin ?_
    refine zk_seq ?_
    refine zc_ret ?_
    refine zk_ret1 (.inr rfl) rfl rfl ⟨⟨(zs.getD i 0 % (n : Int)).toNat, by omega, by rw [Int.toNat_of_nonneg hm0]⟩, ⟨⟨w0, _, len, cap, zs, i + 1, hw0, h2.no hC3, hrow, h02.no hC3, hlt⟩, hge⟩, ?_⟩
    exact ((hC1.mono (S' := (· = bt)) (fun _ _ h => h.elim)).trans hU2.chg (fun _ _ h => h)).no hC3
  · refine zs_rdL rfl want_none rfl (by decide) (fun _ hS => r_cmpB (r := true) rfl rfl rfl (iff_of_true rfl (by omega))) ?_
    refine zs_fin ?_
    refine zk_seq ?_
    refine zc_true rfl ?_
    refine zc_seq ?_
    refine zc_region ?_
    refine zl_pureL rfl ?_
    refine zl_nil ?_
    refine zk_seq ?_
    refine zc_ret ?_
    refine zk_ret_then ?_
    exact zk_ret1 (.inr rfl) rfl rfl ⟨⟨0, hn, rfl⟩, ⟨⟨w0, a, len, cap, zs, i, hw0, hb1, hrow, h01, hat⟩, hge⟩, hC1.mono (fun _ _ h => h.elim)⟩
end Go.Proofs.Ytbcmiijollpgeaa.T
