import Derived.Test.YtaagolhokejflaaPWr
/- Both lists of marks, side by side; that they tell the same. -/
namespace Go.Proofs.Ytaagolhokejflaa.M
open Go Go.Z Go.Proofs
set_option linter.unusedVariables false
structure Tw (w0 w : World) (g : Nat) (v : Value) (L : List Mark) (g2 : Nat) (v2 : Value) (L2 : List Mark) : Prop where
  a : Fr w0 w 62 g v L
  b : Fr w0 w 68 g2 v2 L2
  ap : ∀ k, v.ownBlock = some k → v2.ownBlock ≠ some k
section
variable {w0 w w' : World} {g g2 : Nat} {v v2 v' : Value} {L L2 L' : List Mark}
theorem Tw.no (h : Tw w0 w g v L g2 v2 L2) (hc : Chg w w' No) : Tw w0 w' g v L g2 v2 L2 := ⟨h.a.no hc, h.b.no hc, h.ap⟩
theorem Tw.first (h : Tw w0 w g v L g2 v2 L2) (hI : IsM w' 62 g v' L') (hW : Wr w w' g v v') : Tw w0 w' g v' L' g2 v2 L2 := by
  have ha := h.a.wr hI hW
  refine ⟨ha, ⟨h.b.is.chg hW.chg ?_ ?_ (h.a.is.foot47 (by decide)), h.b.ge, h.b.new, ha.chg⟩, fun k hk he => ?_⟩
  · rintro (he | he)
    · exact (h.a.is.1.ne h.b.is.1 (by decide)) he.symm
    · obtain ⟨_, ms, hO, _⟩ := h.a.is
      exact hO.ne he h.b.is.1 (by decide) rfl
  · rintro k hk (he | he)
    · obtain ⟨_, ms, hO, _⟩ := h.b.is
      exact hO.ne hk h.a.is.1 (by decide) he
    · exact h.ap k he hk
  · rcases hW.row with h1 | ⟨q, h1, h2⟩
    · exact h.ap k (h1 ▸ hk) he
    · rw [hk] at h1; cases h1
      have := h.b.is.lt k (.inr he); omega
theorem Tw.second (h : Tw w0 w g v L g2 v2 L2) (hI : IsM w' 68 g2 v' L') (hW : Wr w w' g2 v2 v') : Tw w0 w' g v L g2 v' L' := by
  have hb := h.b.wr hI hW
  refine ⟨⟨h.a.is.chg hW.chg ?_ ?_ (h.b.is.foot47 (by decide)), h.a.ge, h.a.new, hb.chg⟩, hb, fun k hk he => ?_⟩
  · rintro (he | he)
    · exact (h.b.is.1.ne h.a.is.1 (by decide)) he.symm
    · obtain ⟨_, ms, hO, _⟩ := h.b.is
      exact hO.ne he h.a.is.1 (by decide) rfl
  · rintro k hk (he | he)
    · obtain ⟨_, ms, hO, _⟩ := h.a.is
      exact hO.ne hk h.b.is.1 (by decide) he
    · exact h.ap k hk he
  · rcases hW.row with h1 | ⟨q, h1, h2⟩
    · exact h.ap k hk (h1 ▸ he)
    · rw [he] at h1; cases h1
      have := h.a.is.lt k (.inr hk); omega
theorem IsM.ms {st : Nat} (h : IsM w st g v L) : MS w v L := by
  obtain ⟨_, ms, hO, hA⟩ := h
  exact ⟨ms, hO.rd, hA⟩
theorem MS.one {b : Nat} {m : MV} {x : Mark} (hx : MR w m x) (h : New w w' b 32 (mval m).cells.toList) : MS w' (.slice (some ⟨b, 0, none⟩) 1 1) [x] := ⟨[m], RdS.mark hx h, All2.one (hx.keep (K47.no h.chg))⟩
theorem Few.one {x : Mark} (h : x.attrs.length ≤ 100000) : ∀ m ∈ [x], m.attrs.length ≤ 100000 := fun m hm => by
  simp only [List.mem_singleton] at hm; subst hm; exact h
end
set_option maxHeartbeats 8000000 in
theorem same38_calls {w0 w : World} {g g2 : Nat} {v v2 : Value} {L : List Mark} (h : Tw w0 w g v L g2 v2 L) (hl : L.length ≤ 1000) (hf : Few L) :
    Calls Try.prog 38 [Value.pointer (some ⟨g, 0, none⟩), .pointer (some ⟨g2, 0, none⟩)].toArray w fun e w' => e = .returned (.bool true) ∧ Chg w w' No := by
  obtain ⟨A2, c2, hv2, hc2⟩ := h.b.is.form
  subst hv2
  have hg2 := h.b.is.1
  refine calls_zc (n := 68) (f := 38) (fn := Try.f38) Try.func38 rfl rfl (by simp) ?_
  refine zc_seq ?_
  refine zc_region ?_
  refine zl_pureL rfl ?_
  refine zl_nil ?_
  refine zk_seq ?_
  iterate 2 (refine zc_seq ?_)
  refine zc_draw [] (fun w' => Chg w w' No ∧ Blk w' g2 68 [.slice A2 L.length c2]) (.take 0 (.take 2 (.all1 1 (.all1 3 (.take 4 (.take 5 (.take 6 (.take 8 (.take 9 (.take 10 (.take 11 (.all1 7 (.all1 12 (.take 13 (.take 14 (.fin)))))))))))))))) (by rfl) (by kernel_rfl) (by kernel_rfl) (fun w1 hC1 hH1 => ⟨?_, ?_⟩)
  · exact ⟨hC1, hg2.no hC1⟩
  iterate 2 (refine zs_take rfl (zt_pure rfl ?_))
  refine zs_call rfl (by first | exact want_none | exact want_L rfl) rfl (by decide) rfl (len_calls (h.a.is.no hC1)) ?_
  rintro _ u2 ⟨rfl, hu⟩
  obtain rfl := hu.symm
  refine ⟨_, rfl, ⟨hC1, hg2.no hC1⟩, ?_⟩
  refine zs_call rfl (by first | exact want_none | exact want_L rfl) rfl (by decide) rfl (len68_calls (h.b.is.no hC1)) ?_
  rintro _ u2 ⟨rfl, hu⟩
  obtain rfl := hu.symm
  refine ⟨_, rfl, ⟨hC1, hg2.no hC1⟩, ?_⟩
  refine zs_rdL rfl want_none rfl (by decide) (fun _ hS => r_cmpB (r := false) rfl rfl rfl (iff_of_false Bool.false_ne_true (by omega))) ?_
  iterate 4 (refine zs_take rfl (zt_pure rfl ?_))
  refine zs_rdL rfl (want_L rfl) rfl (by decide) (fun _ hS => r_fa rfl) ?_
  refine zs_rdL rfl (want_L rfl) rfl (by decide) (fun _ hS => r_loadB rfl hS.2 (by rfl)) ?_
  refine zs_call rfl (by first | exact want_none | exact want_L rfl) rfl (by decide) rfl (all_calls (h.a.is.no hC1) (by omega) hf) ?_
  rintro _ u3 ⟨vo, rfl, hT, hC3⟩
  have hC3 := hC1.no hC3
  refine ⟨_, rfl, ⟨hC3, hg2.no hC3⟩, ?_⟩
  skip
  refine zs_call rfl (by first | exact want_none | exact want_L rfl) rfl (by decide) rfl (same7_calls hT.ms (h.b.is.no hC3).ms (by omega) (by omega) hf hf) ?_
  rintro _ u4 ⟨r, rfl, hr, hC4⟩
  obtain rfl : r = true := hr.2 rfl
  have hC4 := hC3.no hC4
  refine ⟨_, rfl, ⟨hC4, hg2.no hC4⟩, ?_⟩
  iterate 2 (refine zs_take rfl (zt_pure rfl ?_))
  refine zs_fin ?_
  refine zk_seq ?_
  refine zc_false rfl ?_
  refine zc_skip ?_
  refine zk_seq ?_
  iterate 2 (refine zc_seq ?_)
  refine zc_region ?_
  refine zl_pureL rfl ?_
  refine zl_nil ?_
  refine zk_seq ?_
  refine zc_block ?_
  refine zc_midB (fun u => Chg w u No) [(0, .pointer (some ⟨g, 0, none⟩)), (1, .pointer (some ⟨g2, 0, none⟩))] ?_ ?_
  · refine zc_loopW (ι := Nat) (fun k u => [(0, .pointer (some ⟨g, 0, none⟩)), (1, .pointer (some ⟨g2, 0, none⟩)), (5, .int .i64 ((k : Int) - 1))]) (fun k u => k ≤ L.length + 2 ∧ Chg w u No) (fun k u => L.length + 2 - k) 0 ⟨by omega, hC4⟩ ?_ ?_
    · exact ⟨rfl, rfl, rfl, trivial⟩
    rintro k u ⟨hk, hC⟩
    by_cases hlt : k < L.length + 2
    · iterate 2 (refine zc_seq ?_)
      refine zc_region ?_
      iterate 2 (refine zl_pureL rfl ?_)
      refine zl_call (by first | exact want_none | exact want_L rfl) rfl (by decide) rfl (len68_calls (h.b.is.no hC)) ?_
      rintro _ u2 ⟨rfl, hu⟩
      obtain rfl := hu.symm
      refine ⟨_, rfl, ?_⟩
      by_cases hin : 1 ≤ k ∧ k - 1 < L.length
      · obtain ⟨j, rfl⟩ : ∃ j, k = j + 1 := ⟨k - 1, by omega⟩
        have hj : j < L.length := by omega
        have hjf := hf _ (getD_mem (d := Mark.z) hj)
        refine z_cmpB (r := true) want_none (by decide) rfl rfl rfl (iff_of_true rfl (by omega)) ?_
        refine zl_nil ?_
        refine zk_seq ?_
        refine zc_true rfl ?_
        refine zc_skip ?_
        refine zk_seq ?_
        refine zc_seq ?_
        refine zc_block ?_
        refine zc_seq ?_
        refine zc_region ?_
        iterate 2 (refine zl_pureL rfl ?_)
        rw [show ((j + 1 : Nat) : Int) - 1 = (j : Int) by omega]
        refine zl_call (by first | exact want_none | exact want_L rfl) rfl (by decide) rfl (at_calls (h.a.is.no hC) (by omega) hf j hj) ?_
        rintro _ u5 ⟨av, rfl, ha5, _, hC5⟩
        have hC5 := hC.no hC5
        refine ⟨_, rfl, ?_⟩
        obtain ⟨A5, c5, rfl, hc5⟩ := ha5.form
        iterate 3 (refine zl_pureL rfl ?_)
        refine z_alloc (by first | exact want_none | exact want_L rfl) (by decide) (fun u6 b6 hN6 => ?_)
        have hb6 : Blk u6 b6 32 [.int .i64 0, .string ⟨#[]⟩, .slice none 0 0] := hN6.blk
        skip
        refine z_store (by first | exact want_none | exact want_L rfl) rfl rfl rfl (by assumption) (by first | exact Nat.le_refl _ | simp [Value.cells]) (by simp [Value.cells, Value.oneCell']) (fun u7 hU7 => ?_)
        have hC7 := (hC5.new hN6).upd hU7 (hN6.ge hC5)
        have hb7 : Blk u7 b6 32 [.int .i64 (L.getD j Mark.z).node, .string (L.getD j Mark.z).name, .slice A5 (L.getD j Mark.z).attrs.length c5] := hU7.blk
        have hx : MR u7 ⟨_, _, .slice A5 (L.getD j Mark.z).attrs.length c5⟩ (L.getD j Mark.z) := ⟨rfl, rfl, (ha5.no hN6.chg).keep (K47.upd hU7 (by decide))⟩
        refine zl_pureL rfl ?_
        refine zl_nil ?_
        refine zk_seq ?_
        refine zc_seq ?_
        refine zc_region ?_
        iterate 2 (refine zl_pureL rfl ?_)
        refine zl_call (by first | exact want_none | exact want_L rfl) rfl (by decide) rfl (at68_calls (h.b.is.no hC7) (by omega) j hj) ?_
        rintro _ u8 ⟨m8, rfl, hm8, hC8⟩
        have hx := hx.keep (K47.no hC8)
        have hb8 := hb7.no hC8
        have hC8 := hC7.no hC8
        refine ⟨_, rfl, ?_⟩
        obtain ⟨nd8, nm8, av8⟩ := m8
        obtain ⟨g1, g2', g3⟩ := hm8
        dsimp only at g1 g2' g3
        subst g1; subst g2'
        obtain ⟨A8, c8, rfl, hc8⟩ := g3.form
        unfold mval
        iterate 3 (refine zl_pureL rfl ?_)
        refine z_alloc (by first | exact want_none | exact want_L rfl) (by decide) (fun u9 b9 hN9 => ?_)
        have hb9 : Blk u9 b9 32 [.int .i64 0, .string ⟨#[]⟩, .slice none 0 0] := hN9.blk
        have hb8' := hb8.no hN9.chg
        skip
        refine z_store (by first | exact want_none | exact want_L rfl) rfl rfl rfl (by assumption) (by first | exact Nat.le_refl _ | simp [Value.cells]) (by simp [Value.cells, Value.oneCell']) (fun u10 hU10 => ?_)
        have hC10 := (hC8.new hN9).upd hU10 (hN9.ge hC8)
        have hb10 : Blk u10 b9 32 [.int .i64 (L.getD j Mark.z).node, .string (L.getD j Mark.z).name, .slice A8 (L.getD j Mark.z).attrs.length c8] := hU10.blk
        have hK := (K47.no hN9.chg).trans (K47.upd hU10 (by decide))
        have hx10 := hx.keep hK
        have hy10 : MR u10 ⟨_, _, .slice A8 (L.getD j Mark.z).attrs.length c8⟩ (L.getD j Mark.z) := ⟨rfl, rfl, g3.keep hK⟩
        have hbb : Blk u10 b6 32 [.int .i64 (L.getD j Mark.z).node, .string (L.getD j Mark.z).name, .slice A5 (L.getD j Mark.z).attrs.length c5] := hb8'.chg hU10.chg (fun he => by have := hb8.lt; have := hN9.at_; omega)
        refine zl_pureL rfl ?_
        refine zl_nil ?_
        refine zk_seq ?_
        refine zc_seq ?_
        refine zc_region ?_
        iterate 2 (refine zl_pureL rfl ?_)
        refine z_neT (by first | exact want_none | exact want_L rfl) (by decide) rfl rfl ?_
        rw [show (!(true == true)) = false from rfl]
        refine zl_pureL rfl ?_
        refine z_loadAB (want_L rfl) (by decide) rfl (by assumption) (by rfl) ?_
        refine z_bs1 (by first | exact want_none | exact want_L rfl) (by decide) rfl (by rfl) (by rfl) (by decide) (by decide) (fun u11 b11 hN11 => ?_)
        have hM1 := MS.one hx10 hN11
        have hb11 := hb10.no hN11.chg
        refine z_loadAB (want_L rfl) (by decide) rfl (by assumption) (by rfl) ?_
        refine z_bs1 (by first | exact want_none | exact want_L rfl) (by decide) rfl (by rfl) (by rfl) (by decide) (by decide) (fun u12 b12 hN12 => ?_)
        have hM2 := MS.one (hy10.keep (K47.no hN11.chg)) hN12
        refine zl_call (by first | exact want_none | exact want_L rfl) rfl (by decide) rfl (same7_calls (hM1.no hN12.chg) hM2 (by simp) (by simp) (Few.one hjf) (Few.one hjf)) ?_
        rintro _ u13 ⟨r, rfl, hr, hC13⟩
        obtain rfl : r = true := hr.2 rfl
        refine ⟨_, rfl, ?_⟩
        iterate 2 (refine zl_pureL rfl ?_)
        refine zl_nil ?_
        refine zk_seq ?_
        refine zc_false rfl ?_
        refine zc_skip ?_
        refine zk_norm_block ?_
        refine zk_seq ?_
        refine zc_region ?_
        refine zl_pureL rfl ?_
        refine z_add want_none (by decide) rfl rfl (by omega) (by omega) ?_
        refine zl_pureL rfl ?_
        refine zl_nil ?_
        exact zk_loopW (j + 2) ⟨by omega, ((hC10.new hN11).new hN12).no hC13⟩ (by omega) ⟨rfl, rfl, get_int rfl (by omega), trivial⟩
      · have hout : (k : Int) - 1 < 0 ∨ (L.length : Int) ≤ (k : Int) - 1 := by omega
        refine z_cmpB (r := true) want_none (by decide) rfl rfl rfl (iff_of_true rfl (by omega)) ?_
        refine zl_nil ?_
        refine zk_seq ?_
        refine zc_true rfl ?_
        refine zc_skip ?_
        refine zk_seq ?_
        refine zc_seq ?_
        refine zc_block ?_
        refine zc_seq ?_
        refine zc_region ?_
        iterate 2 (refine zl_pureL rfl ?_)
        refine zl_call (by first | exact want_none | exact want_L rfl) rfl (by decide) rfl (at_out (h.a.is.no hC) (by omega) _ hout) ?_
        rintro _ u5 ⟨rfl, hC5⟩
        have hC5 := hC.no hC5
        refine ⟨_, rfl, ?_⟩
        iterate 3 (refine zl_pureL rfl ?_)
        refine z_alloc (by first | exact want_none | exact want_L rfl) (by decide) (fun u6 b6 hN6 => ?_)
        have hb6 : Blk u6 b6 32 [.int .i64 0, .string ⟨#[]⟩, .slice none 0 0] := hN6.blk
        skip
        refine z_store (by first | exact want_none | exact want_L rfl) rfl rfl rfl (by assumption) (by first | exact Nat.le_refl _ | simp [Value.cells]) (by simp [Value.cells, Value.oneCell']) (fun u7 hU7 => ?_)
        have hC7 := (hC5.new hN6).upd hU7 (hN6.ge hC5)
        have hb7 : Blk u7 b6 32 [.int .i64 0, .string ⟨#[]⟩, .slice none 0 0] := hU7.blk
        have hz : ∀ u, MR u ⟨0, ⟨#[]⟩, .slice none 0 0⟩ ⟨0, ⟨#[]⟩, []⟩ := fun u => ⟨rfl, rfl, AttrS.nil u⟩
        refine zl_pureL rfl ?_
        refine zl_nil ?_
        refine zk_seq ?_
        refine zc_seq ?_
        refine zc_region ?_
        iterate 2 (refine zl_pureL rfl ?_)
        refine zl_call (by first | exact want_none | exact want_L rfl) rfl (by decide) rfl (at68_out (h.b.is.no hC7) (by omega) _ hout) ?_
        rintro _ u8 ⟨rfl, hC8⟩
        have hb8 := hb7.no hC8
        have hC8 := hC7.no hC8
        refine ⟨_, rfl, ?_⟩
        iterate 3 (refine zl_pureL rfl ?_)
        refine z_alloc (by first | exact want_none | exact want_L rfl) (by decide) (fun u9 b9 hN9 => ?_)
        have hb9 : Blk u9 b9 32 [.int .i64 0, .string ⟨#[]⟩, .slice none 0 0] := hN9.blk
        have hb8' := hb8.no hN9.chg
        skip
        refine z_store (by first | exact want_none | exact want_L rfl) rfl rfl rfl (by assumption) (by first | exact Nat.le_refl _ | simp [Value.cells]) (by simp [Value.cells, Value.oneCell']) (fun u10 hU10 => ?_)
        have hC10 := (hC8.new hN9).upd hU10 (hN9.ge hC8)
        have hb10 : Blk u10 b9 32 [.int .i64 0, .string ⟨#[]⟩, .slice none 0 0] := hU10.blk
        have hbb : Blk u10 b6 32 [.int .i64 0, .string ⟨#[]⟩, .slice none 0 0] := hb8'.chg hU10.chg (fun he => by have := hb8.lt; have := hN9.at_; omega)
        refine zl_pureL rfl ?_
        refine zl_nil ?_
        refine zk_seq ?_
        refine zc_seq ?_
        refine zc_region ?_
        iterate 2 (refine zl_pureL rfl ?_)
        refine z_neT (by first | exact want_none | exact want_L rfl) (by decide) rfl rfl ?_
        rw [show (!(false == false)) = false from rfl]
        refine zl_pureL rfl ?_
        refine z_loadAB (want_L rfl) (by decide) rfl (by assumption) (by rfl) ?_
        refine z_bs1 (by first | exact want_none | exact want_L rfl) (by decide) rfl (by rfl) (by rfl) (by decide) (by decide) (fun u11 b11 hN11 => ?_)
        have hM1 := MS.one (hz _) hN11
        have hb11 := hb10.no hN11.chg
        refine z_loadAB (want_L rfl) (by decide) rfl (by assumption) (by rfl) ?_
        refine z_bs1 (by first | exact want_none | exact want_L rfl) (by decide) rfl (by rfl) (by rfl) (by decide) (by decide) (fun u12 b12 hN12 => ?_)
        have hM2 := MS.one (hz _) hN12
        refine zl_call (by first | exact want_none | exact want_L rfl) rfl (by decide) rfl (same7_calls (hM1.no hN12.chg) hM2 (by decide) (by decide) (Few.one (by decide)) (Few.one (by decide))) ?_
        rintro _ u13 ⟨r, rfl, hr, hC13⟩
        obtain rfl : r = true := hr.2 rfl
        refine ⟨_, rfl, ?_⟩
        iterate 2 (refine zl_pureL rfl ?_)
        refine zl_nil ?_
        refine zk_seq ?_
        refine zc_false rfl ?_
        refine zc_skip ?_
        refine zk_norm_block ?_
        refine zk_seq ?_
        refine zc_region ?_
        refine zl_pureL rfl ?_
        refine z_add want_none (by decide) rfl rfl (by omega) (by omega) ?_
        refine zl_pureL rfl ?_
        refine zl_nil ?_
        exact zk_loopW (k + 1) ⟨by omega, ((hC10.new hN11).new hN12).no hC13⟩ (by omega) ⟨rfl, rfl, get_int rfl (by omega), trivial⟩
    · iterate 2 (refine zc_seq ?_)
      refine zc_region ?_
      iterate 2 (refine zl_pureL rfl ?_)
      refine zl_call (by first | exact want_none | exact want_L rfl) rfl (by decide) rfl (len68_calls (h.b.is.no hC)) ?_
      rintro _ u2 ⟨rfl, hu⟩
      obtain rfl := hu.symm
      refine ⟨_, rfl, ?_⟩
      refine z_cmpB (r := false) want_none (by decide) rfl rfl rfl (iff_of_false Bool.false_ne_true (by omega)) ?_
      refine zl_nil ?_
      refine zk_seq ?_
      refine zc_false rfl ?_
      refine zc_exit ?_
      iterate 2 (refine zk_exit_then ?_)
      refine zk_exit_block ?_
      exact zk_mid hC ⟨rfl, rfl, trivial⟩
  intro u5 hC5
  iterate 2 (refine zc_seq ?_)
  refine zc_region ?_
  refine zl_pureL rfl ?_
  refine zl_nil ?_
  refine zk_seq ?_
  refine zc_block ?_
  refine zc_loopW (ι := Nat) (fun k u => [(0, .pointer (some ⟨g, 0, none⟩)), (1, .pointer (some ⟨g2, 0, none⟩)), (10, .int .i64 k)]) (fun k u => k ≤ 5 ∧ Chg w u No) (fun k u => 5 - k) 0 ⟨by omega, hC5⟩ ?_ ?_
  · exact ⟨rfl, rfl, rfl, trivial⟩
  rintro k u ⟨hk, hC⟩
  by_cases hlt : k < 5
  · iterate 2 (refine zc_seq ?_)
    refine zc_region ?_
    refine zl_pureL rfl ?_
    refine z_cmpB (r := true) want_none (by decide) rfl rfl rfl (iff_of_true rfl (by omega)) ?_
    refine zl_nil ?_
    refine zk_seq ?_
    refine zc_true rfl ?_
    refine zc_skip ?_
    refine zk_seq ?_
    refine zc_seq ?_
    refine zc_block ?_
    refine zc_seq ?_
    refine zc_region ?_
    iterate 2 (refine zl_pureL rfl ?_)
    refine zl_call (by first | exact want_none | exact want_L rfl) rfl (by decide) rfl (name_calls k) ?_
    rintro _ u6 ⟨rfl, hC6⟩
    have hC6 := hC.no hC6
    refine ⟨_, rfl, ?_⟩
    refine zl_call (by first | exact want_none | exact want_L rfl) rfl (by decide) rfl (find_calls (nameN k) (h.a.is.no hC6) (by omega)) ?_
    rintro _ u7 ⟨rfl, hu⟩
    obtain rfl := hu.symm
    refine ⟨_, rfl, ?_⟩
    iterate 2 (refine zl_pureL rfl ?_)
    refine zl_call (by first | exact want_none | exact want_L rfl) rfl (by decide) rfl (name_calls k) ?_
    rintro _ u8 ⟨rfl, hC8⟩
    have hC8 := hC6.no hC8
    refine ⟨_, rfl, ?_⟩
    refine zl_call (by first | exact want_none | exact want_L rfl) rfl (by decide) rfl (find68_calls (nameN k) (h.b.is.no hC8) (by omega)) ?_
    rintro _ u9 ⟨rfl, hu⟩
    obtain rfl := hu.symm
    refine ⟨_, rfl, ?_⟩
    refine z_cmpB (r := false) (by first | exact want_none | exact want_L rfl) (by decide) rfl rfl rfl (by simp) ?_
    refine zl_nil ?_
    refine zk_seq ?_
    refine zc_false rfl ?_
    refine zc_skip ?_
    refine zk_norm_block ?_
    refine zk_seq ?_
    refine zc_region ?_
    refine zl_pureL rfl ?_
    refine z_add want_none (by decide) rfl rfl (by omega) (by omega) ?_
    refine zl_pureL rfl ?_
    refine zl_nil ?_
    exact zk_loopW (k + 1) ⟨by omega, hC8⟩ (by omega) ⟨rfl, rfl, get_int rfl (by simp), trivial⟩
  · iterate 2 (refine zc_seq ?_)
    refine zc_region ?_
    refine zl_pureL rfl ?_
    refine z_cmpB (r := false) want_none (by decide) rfl rfl rfl (iff_of_false Bool.false_ne_true (by omega)) ?_
    refine zl_nil ?_
    refine zk_seq ?_
    refine zc_false rfl ?_
    refine zc_exit ?_
    iterate 2 (refine zk_exit_then ?_)
    refine zk_exit_block ?_
    refine zk_seq ?_
    refine zc_seq ?_
    refine zc_region ?_
    refine zl_pureL rfl ?_
    refine zl_nil ?_
    refine zk_seq ?_
    refine zc_ret ?_
    exact zk_ret1 (.inr rfl) rfl rfl ⟨rfl, hC⟩
end Go.Proofs.Ytaagolhokejflaa.M
