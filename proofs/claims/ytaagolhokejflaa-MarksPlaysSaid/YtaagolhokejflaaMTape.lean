import Derived.Test.YtaagolhokejflaaMLaw1
/- The tape of numbers: More, Next. -/
namespace Go.Z
open Go
/-- a cut behind a block: M holds there, and the slots of e' -/
theorem zc_midB {P : Program} {n : Nat} {e : Env} {w : World} {x y : Code} {id : Nat} {Q1 Q2 : Exit → Act → World → Prop} (M : World → Prop) (e' : Env) (h1 : ZC P n x e w (Exit.inBlock id (Exit.then (fun a w' => M w' ∧ Ok n e' a) Q2))) (h2 : ∀ w', M w' → ZC P n y e' w' Q1) :
    ZC P n x e w (Exit.inBlock id (Exit.then (y.wp P Q1) Q2)) := by
  unfold ZC at *
  intro a ha
  refine wp_mono (h1 a ha) ?_
  intro z a' w' hq
  cases z with
  | normal => exact h2 w' hq.1 a' hq.2
  | exit j =>
    simp only [Exit.inBlock] at hq ⊢
    split
    · rename_i hj; rw [if_pos hj] at hq; exact h2 w' hq.1 a' hq.2
    · rename_i hj; rw [if_neg hj] at hq; exact hq
  | goto l => exact hq
  | ret => exact hq
  | panic ch => exact hq
  | outgrown => exact hq
end Go.Z
namespace Go.Proofs.Ytaagolhokejflaa.M
open Go Go.Z Go.Proofs
set_option linter.unusedVariables false
/-- a row of numbers that is handed in -/
def IsRow (k : IntKind) (w : World) (a : Option Addr) (len cap : Nat) (zs : List Int) : Prop :=
  (a = none ∧ len = 0 ∧ cap = 0 ∧ zs = []) ∨
  ∃ x, a = some x ∧ len ≤ cap ∧ cap ≤ maxLen ∧ zs.length = cap ∧ (∀ i, i < zs.length → w.cell? (x.add i) = some (.int k (zs.getD i 0))) ∧ ∀ n ∈ zs, (Lit.int k n).wf = true
theorem IsRow.le {k : IntKind} {w : World} {a : Option Addr} {len cap : Nat} {zs : List Int} (h : IsRow k w a len cap zs) : len ≤ cap ∧ cap ≤ 9223372036854775807 ∧ zs.length = cap := by
  rcases h with ⟨rfl, rfl, rfl, rfl⟩ | ⟨x, rfl, h1, h2, h3, _⟩
  · exact ⟨Nat.le_refl _, by decide, rfl⟩
  · exact ⟨h1, by simpa [maxLen] using h2, h3⟩
theorem IsRow.at_ {k : IntKind} {w : World} {a : Option Addr} {len cap : Nat} {zs : List Int} (h : IsRow k w a len cap zs) (i : Nat) (hi : i < len) : ∃ b o, a = some ⟨b, o, none⟩ ∧ w.cell? ⟨b, o + i, none⟩ = some (.int k (zs.getD i 0)) := by
  rcases h with ⟨rfl, rfl, rfl, rfl⟩ | ⟨x, rfl, h1, h2, h3, h4, h5⟩
  · omega
  · have h0 := h4 0 (by omega)
    have hx : x.add 0 = x := by unfold Addr.add; rw [if_pos rfl]
    rw [hx] at h0
    obtain ⟨b, o, s⟩ := x
    have hs : s = none := by
      unfold World.cell? at h0
      split at h0
      · split at h0
        · cases h0
        · rename_i hn; simpa using hn
      · cases h0
    subst hs
    refine ⟨b, o, rfl, ?_⟩
    have := h4 i (by omega)
    rwa [addr_add] at this
/-- a block of another type is written: the list stays -/
theorem IsM.other {w w' : World} {st g b t : Nat} {v : Value} {cs : List Value} {L : List Mark} (h : IsM w st g v L) (hb : Blk w b t cs) (hc : Chg w w' (· = b)) (h1 : t ≠ st) (h2 : t ≠ 32) (h3 : t ≠ 47) : IsM w' st g v L := by
  refine h.chg hc (fun he => (hb.ne h.1 h1) he.symm) (fun k hk he => ?_) (fun q cells hq he => ?_)
  · obtain ⟨_, ms, hO, _⟩ := h
    exact hO.ne hk hb (Ne.symm h2) he
  · exact (hq.ne hb (Ne.symm h3)) he
theorem Fr.other {w0 w w' : World} {st g b t : Nat} {v : Value} {cs : List Value} {L : List Mark} (h : Fr w0 w st g v L) (hb : Blk w b t cs) (hc : Chg w w' (· = b)) (h1 : t ≠ st) (h2 : t ≠ 32) (h3 : t ≠ 47) (hge : w0.heap.size ≤ b) : Fr w0 w' st g v L :=
  ⟨h.is.other hb hc h1 h2 h3, h.ge, h.new, h.chg.trans hc (fun i hi he => by subst he; omega)⟩
theorem more_calls {w : World} {bt : Nat} {a : Option Addr} {len cap at' : Nat} (h : Blk w bt 38 [.slice a len cap, .int .i64 at']) :
    Calls Try.prog 18 [.pointer (some ⟨bt, 0, none⟩)].toArray w fun e w' => e = .returned (.bool (decide (at' < len))) ∧ Chg w w' No := by
  refine calls_zc (n := 13) (f := 18) (fn := Try.f18) Try.func18 rfl rfl (by simp) ?_
  refine zc_seq ?_
  refine zc_region ?_
  refine zl_pureL rfl ?_
  refine zl_nil ?_
  refine zk_seq ?_
  refine zc_seq ?_
  refine zc_draw [] (fun w' => Blk w' bt 38 [.slice a len cap, .int .i64 at']) (.take 0 (.take 1 (.take 2 (.take 3 (.take 4 (.take 5 (.take 6 (.take 7 (.take 8 (.take 9 (.take 10 (.fin)))))))))))) (by rfl) (by kernel_rfl) (by kernel_rfl) (fun w1 hC1 hH1 => ⟨?_, ?_⟩)
  · exact h.no hC1
  iterate 2 (refine zs_take rfl (zt_pure rfl ?_))
  refine zs_rdL rfl want_none rfl (by decide) (fun _ hS => r_fa rfl) ?_
  refine zs_rdL rfl want_none rfl (by decide) (fun _ hS => r_loadB rfl hS (by rfl)) ?_
  iterate 2 (refine zs_take rfl (zt_pure rfl ?_))
  refine zs_rdL rfl want_none rfl (by decide) (fun _ hS => r_fa rfl) ?_
  refine zs_rdL rfl want_none rfl (by decide) (fun _ hS => r_loadB rfl hS (by rfl)) ?_
  refine zs_rdL rfl want_none rfl (by decide) (fun _ hS => r_len rfl) ?_
  refine zs_rdL rfl (by first | exact want_none | exact want_L rfl) rfl (by decide) (fun _ hS => r_cmpB (r := decide (at' < len)) rfl rfl rfl (by simp)) ?_
  refine zs_take rfl (zt_pure rfl ?_)
  refine zs_fin ?_
  refine zk_seq ?_
  refine zc_ret ?_
  exact zk_ret1 (.inr rfl) rfl rfl ⟨rfl, hC1⟩
theorem next_calls {w0 w : World} {bt : Nat} {a : Option Addr} {len cap at' : Nat} {zs : List Int} (n : Nat) (hn : 0 < n) (hn2 : n ≤ 1000000000) (h : Blk w bt 38 [.slice a len cap, .int .i64 at']) (hR : IsRow .i64 w0 a len cap zs) (hC : Chg w0 w No) (hge : w0.heap.size ≤ bt) (hat : at' ≤ len) :
    Calls Try.prog 19 [.pointer (some ⟨bt, 0, none⟩), .int .i64 n].toArray w fun e w' => ∃ k at2 : Nat, k < n ∧ e = .returned (.int .i64 k) ∧ Blk w' bt 38 [.slice a len cap, .int .i64 at2] ∧ at2 ≤ len ∧ Chg w w' (· = bt) := by
  obtain ⟨hlc, hcm, _⟩ := hR.le
  refine calls_zc (n := 35) (f := 19) (fn := Try.f19) Try.func19 rfl rfl (by simp) ?_
  refine zc_seq ?_
  refine zc_region ?_
  refine zl_pureL rfl ?_
  refine zl_nil ?_
  refine zk_seq ?_
  iterate 2 (refine zc_seq ?_)
  refine zc_draw [] (fun w' => Blk w' bt 38 [.slice a len cap, .int .i64 at']) (.take 0 (.take 1 (.take 2 (.take 3 (.take 4 (.take 5 (.take 6 (.take 7 (.take 8 (.take 9 (.fin))))))))))) (by rfl) (by kernel_rfl) (by kernel_rfl) (fun w1 hC1 hH1 => ⟨?_, ?_⟩)
  · exact h.no hC1
  have h1 := h.no hC1
  have hCa : Chg w w1 No := hC1
  iterate 2 (refine zs_take rfl (zt_pure rfl ?_))
  refine zs_rdL rfl want_none rfl (by decide) (fun _ hS => r_fa rfl) ?_
  refine zs_rdL rfl want_none rfl (by decide) (fun _ hS => r_loadB rfl hS (by rfl)) ?_
  iterate 2 (refine zs_take rfl (zt_pure rfl ?_))
  refine zs_rdL rfl want_none rfl (by decide) (fun _ hS => r_fa rfl) ?_
  refine zs_rdL rfl want_none rfl (by decide) (fun _ hS => r_loadB rfl hS (by rfl)) ?_
  refine zs_rdL rfl want_none rfl (by decide) (fun _ hS => r_len rfl) ?_
  by_cases hlt : at' < len
  · refine zs_rdL rfl want_none rfl (by decide) (fun _ hS => r_cmpB (r := false) rfl rfl rfl (iff_of_false Bool.false_ne_true (by omega))) ?_
    refine zs_fin ?_
    refine zk_seq ?_
    refine zc_false rfl ?_
    refine zc_skip ?_
    refine zk_seq ?_
    refine zc_seq ?_
    refine zc_region ?_
    iterate 2 (refine zl_pureL rfl ?_)
    refine z_fa want_none (by decide) rfl ?_
    refine z_loadB want_none (by decide) rfl (by assumption) (by rfl) ?_
    refine z_add want_none (by decide) rfl rfl (by omega) (by omega) ?_
    refine zl_pureL rfl ?_
    refine z_fa want_none (by decide) rfl ?_
    refine z_store (by first | exact want_none | exact want_L rfl) rfl rfl rfl (by assumption) (by first | exact Nat.le_refl _ | simp [Value.cells]) (by simp [Value.cells, Value.oneCell']) (fun w2 hU2 => ?_)
    have h2 : Blk w2 bt 38 [.slice a len cap, .int .i64 (at' + 1)] := hU2.blk
    obtain ⟨b, o, rfl, hc⟩ := hR.at_ at' hlt
    have hC2 : Chg w0 w2 No := (hC.no hCa).upd hU2 hge
    have hc2 := cell_no hC2 hc
    refine zl_nil ?_
    refine zk_seq ?_
    refine zc_seq ?_
    refine zc_draw [] (fun w' => Chg w2 w' No ∧ Blk w' bt 38 [.slice (some ⟨b, o, none⟩) len cap, .int .i64 (at' + 1)]) (.take 0 (.take 1 (.take 2 (.take 3 (.take 4 (.take 5 (.take 6 (.take 7 (.take 8 (.take 9 (.take 10 (.take 11 (.all1 12 (.take 13 (.fin))))))))))))))) (by rfl) (by kernel_rfl) (by kernel_rfl) (fun w1 hC1 hH1 => ⟨?_, ?_⟩)
    · exact ⟨‹_›, h2.no ‹_›⟩
    iterate 2 (refine zs_take rfl (zt_pure rfl ?_))
    refine zs_rdL rfl want_none rfl (by decide) (fun _ hS => r_fa rfl) ?_
    refine zs_rdL rfl want_none rfl (by decide) (fun _ hS => r_loadB rfl hS.2 (by rfl)) ?_
    iterate 2 (refine zs_take rfl (zt_pure rfl ?_))
    refine zs_rdL rfl want_none rfl (by decide) (fun _ hS => r_fa rfl) ?_
    refine zs_rdL rfl want_none rfl (by decide) (fun _ hS => r_loadB rfl hS.2 (by rfl)) ?_
    refine zs_rdL rfl want_none rfl (by decide) (fun _ hS => r_sub rfl rfl (by omega) (by omega)) ?_
    refine zs_rdL rfl want_none rfl (by decide) (fun _ hS => r_ia rfl rfl (by omega) (by omega)) ?_
    refine zs_rdL rfl (by first | exact want_none | exact want_L rfl) rfl (by decide) (fun _ hS => r_load1 rfl (cell_at (cell_no hS.1 hc2) (by omega))) ?_
    refine zs_take rfl (zt_pure rfl ?_)
    have hCn : Chg w2 w1 No := ‹_›
    refine zs_call rfl (by first | exact want_none | exact want_L rfl) rfl (by decide) rfl (within1_calls (n := n) hn hn2) ?_
    rintro _ w4 ⟨rfl, rfl⟩
    refine ⟨_, rfl, ⟨hCn, h2.no hCn⟩, ?_⟩
    have hm0 := Int.emod_nonneg (zs.getD at' 0) (show (n : Int) ≠ 0 by omega)
    have hm1 := Int.emod_lt_of_pos (zs.getD at' 0) (show (0 : Int) < n by omega)
    obtain ⟨p, hp⟩ := Int.eq_ofNat_of_zero_le hm0
    rw [hp]
    refine zs_take rfl (zt_pure rfl ?_)
    refine zs_fin ?_
    refine zk_seq ?_
    refine zc_ret ?_
    refine zk_ret1 (.inr rfl) rfl rfl ⟨p, at' + 1, by omega, rfl, ?_, by omega, ?_⟩
    · exact h2.no hCn
    · refine (((hCa.mono (S' := (· = bt)) (fun _ _ h => h.elim)).trans hU2.chg (fun _ _ h => h))).no hCn
  · refine zs_rdL rfl want_none rfl (by decide) (fun _ hS => r_cmpB (r := true) rfl rfl rfl (iff_of_true rfl (by omega))) ?_
    refine zs_fin ?_
    refine zk_seq ?_
    refine zc_true rfl ?_
    refine zc_seq ?_
    refine zc_region ?_
    refine zl_pureL rfl ?_
    refine zl_nil ?_
    refine zk_seq ?_
    refine zc_ret ?_
    refine zk_ret_then ?_
    exact zk_ret1 (.inr rfl) rfl rfl ⟨0, at', hn, rfl, h1, hat, hC1.mono (fun _ _ h => h.elim)⟩
end Go.Proofs.Ytaagolhokejflaa.M
