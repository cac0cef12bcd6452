import Derived.Test.YtjiehalanklapaaDSame
/- Same, the program's. -/
namespace Go.Proofs.Ytjiehalanklapaa.D
open Go Go.Z Go.Proofs
set_option linter.unusedVariables false
def SameOk (f : Nat) : Prop := ∀ {w : World} {v1 v2 : Value} {t1 t2 : NT}, TreeAt w v1 t1 → TreeAt w v2 t2 → FewT t1 → FewT t2 → t1.size ≤ f → f ≤ 100000 →
    Calls Try.prog 41 [v1, v2].toArray w fun e w' => ∃ q, e = .returned (.bool q) ∧ (q = true ↔ t1 = t2) ∧ Chg w w' No
set_option maxHeartbeats 8000000 in
theorem alikeN_calls {f : Nat} (hs : SameOk f) {w : World} {x y : Hd} {A A' K K' : Value} {k k' : NT} (hA : AttrS w A x.attrs) (hA' : AttrS w A' y.attrs) (hK : TreeAt w K k) (hK' : TreeAt w K' k') (hal : x.attrs.length ≤ 100000) (hal' : y.attrs.length ≤ 100000) (hfk : FewT k) (hfk' : FewT k') (hsz : k.size ≤ f) (hf : f ≤ 100000) :
    Calls Try.prog 68 [.agg #[.int .i64 x.kind, .int .i64 x.space, .string x.name, A, .string x.text, .int .i64 x.fr, K], .agg #[.int .i64 y.kind, .int .i64 y.space, .string y.name, A', .string y.text, .int .i64 y.fr, K']].toArray w fun e w' => ∃ q, e = .returned (.bool q) ∧ (q = true ↔ x = y ∧ k = k') ∧ Chg w w' No := by
  obtain ⟨A2, c2, rfl, _⟩ := hA.form
  obtain ⟨A3, c3, rfl, _⟩ := hK.form
  obtain ⟨A4, c4, rfl, _⟩ := hA'.form
  obtain ⟨A5, c5, rfl, _⟩ := hK'.form
  refine calls_zc (n := 83) (f := 68) (fn := Try.f68) Try.func68 rfl rfl (by simp) ?_
  refine zc_seq ?_
  refine zc_region ?_
  refine z_box (by first | exact want_none | exact want_L rfl) (by decide) rfl (fun w1 b1 hN1 => ?_)
  have hb1 : Blk w1 b1 48 [.int .i64 x.kind, .int .i64 x.space, .string x.name, .slice A2 x.attrs.length c2, .string x.text, .int .i64 x.fr, .slice A3 k.len c3] := hN1.blk
  skip
  refine z_box (by first | exact want_none | exact want_L rfl) (by decide) rfl (fun w2 b2 hN2 => ?_)
  have hb2 : Blk w2 b2 48 [.int .i64 y.kind, .int .i64 y.space, .string y.name, .slice A4 y.attrs.length c4, .string y.text, .int .i64 y.fr, .slice A5 k'.len c5] := hN2.blk
  have hb1 := hb1.no hN2.chg
  have hC := hN1.chg.no hN2.chg
  by_cases h1 : x.kind = y.kind
  · by_cases h2 : x.space = y.space
    · refine zl_pureL rfl ?_
      refine zl_nil ?_
      refine zk_seq ?_
      iterate 2 (refine zc_seq ?_)
      refine zc_region ?_
      refine z_fa want_none (by decide) rfl ?_
      refine z_loadB want_none (by decide) rfl (by assumption) (by rfl) ?_
      refine z_fa want_none (by decide) rfl ?_
      refine z_loadB want_none (by decide) rfl (by assumption) (by rfl) ?_
      refine z_cmpB (r := false) want_none (by decide) rfl rfl rfl (iff_of_false Bool.false_ne_true (by omega)) ?_
      refine zl_pureL rfl ?_
      refine z_fa (want_L rfl) (by decide) rfl ?_
      refine z_loadB (want_L rfl) (by decide) rfl (by assumption) (by rfl) ?_
      refine z_fa (want_L rfl) (by decide) rfl ?_
      refine z_loadB (want_L rfl) (by decide) rfl (by assumption) (by rfl) ?_
      refine z_cmpB (r := false) (want_L rfl) (by decide) rfl rfl rfl (iff_of_false Bool.false_ne_true (by omega)) ?_
      iterate 2 (refine zl_pureL rfl ?_)
      refine z_fa (want_L rfl) (by decide) rfl ?_
      refine z_loadB (want_L rfl) (by decide) rfl (by assumption) (by rfl) ?_
      refine z_fa (want_L rfl) (by decide) rfl ?_
      refine z_loadB (want_L rfl) (by decide) rfl (by assumption) (by rfl) ?_
      refine z_neS (by first | exact want_none | exact want_L rfl) (by decide) rfl rfl (fun hc => ?_) (fun hc => ?_)
      · have hn : ¬ x.name = y.name := by assumption
        iterate 2 (refine zl_pureL rfl ?_)
        iterate 5 (refine zl_skip rfl ?_)
        iterate 2 (refine zl_pureL rfl ?_)
        iterate 5 (refine zl_skip rfl ?_)
        iterate 2 (refine zl_pureL rfl ?_)
        iterate 7 (refine zl_skip rfl ?_)
        refine zl_pureL rfl ?_
        refine zl_nil ?_
        refine zk_seq ?_
        refine zc_true rfl ?_
        refine zc_seq ?_
        refine zc_region ?_
        refine zl_pureL rfl ?_
        refine zl_nil ?_
        refine zk_seq ?_
        refine zc_ret ?_
        refine zk_ret_then ?_
        exact zk_ret1 (.inr rfl) rfl rfl ⟨false, rfl, no_ (fun h => hn (by rw [h.1])), hC⟩
      have h3 : x.name = y.name := by assumption
      iterate 2 (refine zl_pureL rfl ?_)
      refine z_fa (want_L rfl) (by decide) rfl ?_
      refine z_loadB (want_L rfl) (by decide) rfl (by assumption) (by rfl) ?_
      refine z_fa (want_L rfl) (by decide) rfl ?_
      refine z_loadB (want_L rfl) (by decide) rfl (by assumption) (by rfl) ?_
      refine z_neS (by first | exact want_none | exact want_L rfl) (by decide) rfl rfl (fun hc => ?_) (fun hc => ?_)
      · have hn : ¬ x.text = y.text := by assumption
        iterate 2 (refine zl_pureL rfl ?_)
        iterate 5 (refine zl_skip rfl ?_)
        iterate 2 (refine zl_pureL rfl ?_)
        iterate 7 (refine zl_skip rfl ?_)
        refine zl_pureL rfl ?_
        refine zl_nil ?_
        refine zk_seq ?_
        refine zc_true rfl ?_
        refine zc_seq ?_
        refine zc_region ?_
        refine zl_pureL rfl ?_
        refine zl_nil ?_
        refine zk_seq ?_
        refine zc_ret ?_
        refine zk_ret_then ?_
        exact zk_ret1 (.inr rfl) rfl rfl ⟨false, rfl, no_ (fun h => hn (by rw [h.1])), hC⟩
      have h5 : x.text = y.text := by assumption
      by_cases h6 : x.fr = y.fr
      · by_cases hll : x.attrs.length = y.attrs.length
        · iterate 2 (refine zl_pureL rfl ?_)
          refine z_fa (want_L rfl) (by decide) rfl ?_
          refine z_loadB (want_L rfl) (by decide) rfl (by assumption) (by rfl) ?_
          refine z_fa (want_L rfl) (by decide) rfl ?_
          refine z_loadB (want_L rfl) (by decide) rfl (by assumption) (by rfl) ?_
          refine z_cmpB (r := false) (want_L rfl) (by decide) rfl rfl rfl (iff_of_false Bool.false_ne_true (by omega)) ?_
          iterate 2 (refine zl_pureL rfl ?_)
          refine z_fa (want_L rfl) (by decide) rfl ?_
          refine z_loadB (want_L rfl) (by decide) rfl (by assumption) (by rfl) ?_
          refine z_len (want_L rfl) (by decide) rfl ?_
          refine z_fa (want_L rfl) (by decide) rfl ?_
          refine z_loadB (want_L rfl) (by decide) rfl (by assumption) (by rfl) ?_
          refine z_len (want_L rfl) (by decide) rfl ?_
          refine z_cmpB (r := false) (want_L rfl) (by decide) rfl rfl rfl (iff_of_false Bool.false_ne_true (by omega)) ?_
          refine zl_pureL rfl ?_
          refine zl_nil ?_
          refine zk_seq ?_
          refine zc_false rfl ?_
          refine zc_skip ?_
          refine zk_seq ?_
          iterate 2 (refine zc_seq ?_)
          refine zc_region ?_
          refine z_fa want_none (by decide) rfl ?_
          refine z_loadB want_none (by decide) rfl (by assumption) (by rfl) ?_
          refine z_len want_none (by decide) rfl ?_
          refine zl_pureL rfl ?_
          refine zl_nil ?_
          refine zk_seq ?_
          refine zc_block ?_
          refine zc_midB (fun u => Chg w2 u No ∧ x.attrs = y.attrs) [(2, .pointer (some ⟨b1, 0, none⟩)), (3, .pointer (some ⟨b2, 0, none⟩))] ?_ ?_
          · refine zc_loopW (ι := Nat) (fun i u => [(2, .pointer (some ⟨b1, 0, none⟩)), (3, .pointer (some ⟨b2, 0, none⟩)), (50, .slice A2 x.attrs.length c2), (51, .int .i64 x.attrs.length), (52, .int .i64 i)])
              (fun i u => i ≤ x.attrs.length ∧ x.attrs.take i = y.attrs.take i ∧ Chg w2 u No) (fun i u => x.attrs.length - i) 0 ⟨Nat.zero_le _, rfl, Chg.refl _ _⟩ ?_ ?_
            · exact ⟨rfl, rfl, rfl, rfl, rfl, trivial⟩
            rintro i u ⟨hi, htk, hC3⟩
            by_cases hlt : i < x.attrs.length
            · obtain ⟨b, o, c', hv, g0, g1⟩ := (hA.no (hC.no hC3)).at_ i hlt
              cases hv
              refine zc_seq ?_
              refine zc_region ?_
              refine z_cmpB (r := true) want_none (by decide) rfl rfl rfl (iff_of_true rfl (by omega)) ?_
              refine zl_nil ?_
              refine zk_seq ?_
              refine zc_seq ?_
              refine zc_true rfl ?_
              refine zc_skip ?_
              refine zk_seq ?_
              refine zc_seq ?_
              refine zc_block ?_
              refine zc_seq ?_
              refine zc_region ?_
              refine zl_pureL rfl ?_
              refine z_ia want_none (by decide) rfl rfl (by omega) (by omega) ?_
              refine z_loadA (by rfl) (by first | exact want_none | exact want_L rfl) (by decide) rfl (agg2 g0 g1 (by omega)) ?_
              refine z_alloc (by first | exact want_none | exact want_L rfl) (by decide) (fun u1 b6 hN6 => ?_)
              have hb6 : Blk u1 b6 45 [.string ⟨#[]⟩, .string ⟨#[]⟩] := hN6.blk
              refine zl_pureL rfl ?_
              refine z_store (by first | exact want_none | exact want_L rfl) rfl rfl rfl (by assumption) (by first | exact Nat.le_refl _ | simp [Value.cells]) (by simp [Value.cells, Value.oneCell']) (fun u2 hU2 => ?_)
              have hb7 : Blk u2 b6 45 [.string (x.attrs.getD i at0).1, .string (x.attrs.getD i at0).2] := hU2.blk
              have hC4 := hC3.no (hN6.chg.upd hU2 (hN6.ge (Chg.refl _ No)))
              have hb2' := hb2.no hC4
              obtain ⟨b', o', c'', hv', g0', g1'⟩ := (hA'.no (hC.no hC4)).at_ i (by omega)
              cases hv'
              refine zl_nil ?_
              refine zk_seq ?_
              refine zc_seq ?_
              refine zc_draw [] (fun w' => Chg u2 w' No ∧ Blk w' b6 45 [.string (x.attrs.getD i at0).1, .string (x.attrs.getD i at0).2] ∧ Blk w' b2 48 [.int .i64 y.kind, .int .i64 y.space, .string y.name, .slice (some ⟨b', o', none⟩) y.attrs.length c4, .string y.text, .int .i64 y.fr, .slice A5 k'.len c5]) (.take 0 (.take 1 (.take 2 (.take 3 (.take 4 (.take 5 (.take 6 (.take 7 (.take 8 (.take 9 (.take 10 (.take 11 (.take 12 (.take 13 (.take 14 (.take 15 (.take 16 (.take 17 (.take 18 (.take 19 (.fin))))))))))))))))))))) (by rfl) (by kernel_rfl) (by kernel_rfl) (fun w1 hC1 hH1 => ⟨?_, ?_⟩)
              · exact ⟨hC1, hb7.no hC1, hb2'.no hC1⟩
              refine zs_rdL rfl want_none rfl (by decide) (fun _ hS => r_fa rfl) ?_
              refine zs_rdL rfl want_none rfl (by decide) (fun _ hS => r_loadB rfl hS.2.1 (by rfl)) ?_
              refine zs_rdL rfl want_none rfl (by decide) (fun _ hS => r_fa rfl) ?_
              refine zs_rdL rfl want_none rfl (by decide) (fun _ hS => r_loadB rfl hS.2.2 (by rfl)) ?_
              refine zs_take rfl (zt_pure rfl ?_)
              refine zs_rdL rfl want_none rfl (by decide) (fun _ hS => r_ia rfl rfl (by omega) (by omega)) ?_
              refine zs_rdL rfl want_none rfl (by decide) (fun _ hS => r_fa rfl) ?_
              refine zs_rdL rfl (by first | exact want_none | exact want_L rfl) rfl (by decide) (fun _ hS => r_load1 rfl (cell_at (cell_no hS.1 g0') (by omega))) ?_
              refine zs_neS rfl (by first | exact want_none | exact want_L rfl) (by decide) rfl rfl (fun hc => ?_) (fun hc => ?_)
              · have hn : ¬ (x.attrs.getD i at0).1 = (y.attrs.getD i at0).1 := by assumption
                refine zs_take rfl (zt_pure rfl ?_)
                iterate 4 (refine zs_take rfl (zt_skip rfl ?_))
                refine zs_take rfl (zt_pure rfl ?_)
                iterate 4 (refine zs_take rfl (zt_skip rfl ?_))
                refine zs_take rfl (zt_pure rfl ?_)
                refine zs_fin ?_
                refine zk_seq ?_
                refine zc_true rfl ?_
                refine zc_seq ?_
                refine zc_region ?_
                refine zl_pureL rfl ?_
                refine zl_nil ?_
                refine zk_seq ?_
                refine zc_ret ?_
                refine zk_ret_block ?_
                iterate 2 (refine zk_ret_then ?_)
                refine zk_ret_block ?_
                refine zk_ret_then ?_
                exact zk_ret1 (.inr rfl) rfl rfl ⟨false, rfl, no_ (fun h => hn (by rw [h.1])), hC.no (hC4.no hC1)⟩
              have hn1 : (x.attrs.getD i at0).1 = (y.attrs.getD i at0).1 := by assumption
              refine zs_take rfl (zt_pure rfl ?_)
              refine zs_rdL rfl (want_L rfl) rfl (by decide) (fun _ hS => r_fa rfl) ?_
              refine zs_rdL rfl (want_L rfl) rfl (by decide) (fun _ hS => r_loadB rfl hS.2.1 (by rfl)) ?_
              refine zs_rdL rfl (want_L rfl) rfl (by decide) (fun _ hS => r_fa rfl) ?_
              refine zs_rdL rfl (want_L rfl) rfl (by decide) (fun _ hS => r_loadB rfl hS.2.2 (by rfl)) ?_
              refine zs_take rfl (zt_pure rfl ?_)
              refine zs_rdL rfl (want_L rfl) rfl (by decide) (fun _ hS => r_ia rfl rfl (by omega) (by omega)) ?_
              refine zs_rdL rfl (want_L rfl) rfl (by decide) (fun _ hS => r_fa rfl) ?_
              refine zs_rdL rfl (by first | exact want_none | exact want_L rfl) rfl (by decide) (fun _ hS => r_load1 rfl (cell_at (cell_no hS.1 g1') (by omega))) ?_
              refine zs_neS rfl (by first | exact want_none | exact want_L rfl) (by decide) rfl rfl (fun hc => ?_) (fun hc => ?_)
              · have hn : ¬ (x.attrs.getD i at0).2 = (y.attrs.getD i at0).2 := by assumption
                refine zs_take rfl (zt_pure rfl ?_)
                refine zs_fin ?_
                refine zk_seq ?_
                refine zc_true rfl ?_
                refine zc_seq ?_
                refine zc_region ?_
                refine zl_pureL rfl ?_
                refine zl_nil ?_
                refine zk_seq ?_
                refine zc_ret ?_
                refine zk_ret_block ?_
                iterate 2 (refine zk_ret_then ?_)
                refine zk_ret_block ?_
                refine zk_ret_then ?_
                exact zk_ret1 (.inr rfl) rfl rfl ⟨false, rfl, no_ (fun h => hn (by rw [h.1])), hC.no (hC4.no hC1)⟩
              have hn2 : (x.attrs.getD i at0).2 = (y.attrs.getD i at0).2 := by assumption
              refine zs_take rfl (zt_pure rfl ?_)
              refine zs_fin ?_
              refine zk_seq ?_
              refine zc_false rfl ?_
              refine zc_skip ?_
              refine zk_norm_block ?_
              refine zk_seq ?_
              refine zc_region ?_
              refine z_add want_none (by decide) rfl rfl (by omega) (by omega) ?_
              refine zl_pureL rfl ?_
              refine zl_nil ?_
              exact zk_loopW (i + 1) ⟨by omega, by rw [take_getD at0 hlt, take_getD at0 (by omega), htk, Prod.ext hn1 hn2], hC4.no hC1⟩ (by omega) ⟨rfl, rfl, rfl, rfl, get_int rfl (by simp), trivial⟩
            · obtain rfl : i = x.attrs.length := by omega
              rw [List.take_length, hll, List.take_length] at htk
              refine zc_seq ?_
              refine zc_region ?_
              refine z_cmpB (r := false) want_none (by decide) rfl rfl rfl (iff_of_false Bool.false_ne_true (by omega)) ?_
              refine zl_nil ?_
              refine zk_seq ?_
              refine zc_seq ?_
              refine zc_false rfl ?_
              refine zc_exit ?_
              iterate 2 (refine zk_exit_then ?_)
              refine zk_exit_block ?_
              exact zk_mid ⟨hC3, htk⟩ ⟨rfl, rfl, trivial⟩
          rintro u3 ⟨hC3, h4⟩
          have hb1 := hb1.no hC3
          have hb2 := hb2.no hC3
          refine zc_seq ?_
          refine zc_region ?_
          refine z_fa want_none (by decide) rfl ?_
          refine z_loadB want_none (by decide) rfl (by assumption) (by rfl) ?_
          refine z_fa want_none (by decide) rfl ?_
          refine z_loadB want_none (by decide) rfl (by assumption) (by rfl) ?_
          refine zl_call (by first | exact want_none | exact want_L rfl) rfl (by decide) rfl (hs (hK.no (hC.no hC3)) (hK'.no (hC.no hC3)) hfk hfk' hsz hf) ?_
          rintro _ u4 ⟨q, rfl, hq, hC4⟩
          refine ⟨_, rfl, ?_⟩
          refine zl_pureL rfl ?_
          refine zl_nil ?_
          refine zk_seq ?_
          refine zc_ret ?_
          exact zk_ret1 (.inr rfl) rfl rfl ⟨q, rfl, hq.trans ⟨fun h => ⟨Hd.ext' h1 h2 h3 h4 h5 h6, h⟩, fun h => h.2⟩, (hC.no hC3).no hC4⟩
        · iterate 2 (refine zl_pureL rfl ?_)
          refine z_fa (want_L rfl) (by decide) rfl ?_
          refine z_loadB (want_L rfl) (by decide) rfl (by assumption) (by rfl) ?_
          refine z_fa (want_L rfl) (by decide) rfl ?_
          refine z_loadB (want_L rfl) (by decide) rfl (by assumption) (by rfl) ?_
          refine z_cmpB (r := false) (want_L rfl) (by decide) rfl rfl rfl (iff_of_false Bool.false_ne_true (by omega)) ?_
          iterate 2 (refine zl_pureL rfl ?_)
          refine z_fa (want_L rfl) (by decide) rfl ?_
          refine z_loadB (want_L rfl) (by decide) rfl (by assumption) (by rfl) ?_
          refine z_len (want_L rfl) (by decide) rfl ?_
          refine z_fa (want_L rfl) (by decide) rfl ?_
          refine z_loadB (want_L rfl) (by decide) rfl (by assumption) (by rfl) ?_
          refine z_len (want_L rfl) (by decide) rfl ?_
          refine z_cmpB (r := true) (want_L rfl) (by decide) rfl rfl rfl (iff_of_true rfl (by omega)) ?_
          refine zl_pureL rfl ?_
          refine zl_nil ?_
          refine zk_seq ?_
          refine zc_true rfl ?_
          refine zc_seq ?_
          refine zc_region ?_
          refine zl_pureL rfl ?_
          refine zl_nil ?_
          refine zk_seq ?_
          refine zc_ret ?_
          refine zk_ret_then ?_
          exact zk_ret1 (.inr rfl) rfl rfl ⟨false, rfl, no_ (fun h => hll (by rw [h.1])), hC⟩
      · iterate 2 (refine zl_pureL rfl ?_)
        refine z_fa (want_L rfl) (by decide) rfl ?_
        refine z_loadB (want_L rfl) (by decide) rfl (by assumption) (by rfl) ?_
        refine z_fa (want_L rfl) (by decide) rfl ?_
        refine z_loadB (want_L rfl) (by decide) rfl (by assumption) (by rfl) ?_
        refine z_cmpB (r := true) (want_L rfl) (by decide) rfl rfl rfl (iff_of_true rfl (by omega)) ?_
        iterate 2 (refine zl_pureL rfl ?_)
        iterate 7 (refine zl_skip rfl ?_)
        refine zl_pureL rfl ?_
        refine zl_nil ?_
        refine zk_seq ?_
        refine zc_true rfl ?_
        refine zc_seq ?_
        refine zc_region ?_
        refine zl_pureL rfl ?_
        refine zl_nil ?_
        refine zk_seq ?_
        refine zc_ret ?_
        refine zk_ret_then ?_
        exact zk_ret1 (.inr rfl) rfl rfl ⟨false, rfl, no_ (fun h => h6 (by rw [h.1])), hC⟩
    · refine zl_pureL rfl ?_
      refine zl_nil ?_
      refine zk_seq ?_
      iterate 2 (refine zc_seq ?_)
      refine zc_region ?_
      refine z_fa want_none (by decide) rfl ?_
      refine z_loadB want_none (by decide) rfl (by assumption) (by rfl) ?_
      refine z_fa want_none (by decide) rfl ?_
      refine z_loadB want_none (by decide) rfl (by assumption) (by rfl) ?_
      refine z_cmpB (r := false) want_none (by decide) rfl rfl rfl (iff_of_false Bool.false_ne_true (by omega)) ?_
      refine zl_pureL rfl ?_
      refine z_fa (want_L rfl) (by decide) rfl ?_
      refine z_loadB (want_L rfl) (by decide) rfl (by assumption) (by rfl) ?_
      refine z_fa (want_L rfl) (by decide) rfl ?_
      refine z_loadB (want_L rfl) (by decide) rfl (by assumption) (by rfl) ?_
      refine z_cmpB (r := true) (want_L rfl) (by decide) rfl rfl rfl (iff_of_true rfl (by omega)) ?_
      iterate 2 (refine zl_pureL rfl ?_)
      iterate 5 (refine zl_skip rfl ?_)
      iterate 2 (refine zl_pureL rfl ?_)
      iterate 5 (refine zl_skip rfl ?_)
      iterate 2 (refine zl_pureL rfl ?_)
      iterate 5 (refine zl_skip rfl ?_)
      iterate 2 (refine zl_pureL rfl ?_)
      iterate 7 (refine zl_skip rfl ?_)
      refine zl_pureL rfl ?_
      refine zl_nil ?_
      refine zk_seq ?_
      refine zc_true rfl ?_
      refine zc_seq ?_
      refine zc_region ?_
      refine zl_pureL rfl ?_
      refine zl_nil ?_
      refine zk_seq ?_
      refine zc_ret ?_
      refine zk_ret_then ?_
      exact zk_ret1 (.inr rfl) rfl rfl ⟨false, rfl, no_ (fun h => h2 (by rw [h.1])), hC⟩
  · refine zl_pureL rfl ?_
    refine zl_nil ?_
    refine zk_seq ?_
    iterate 2 (refine zc_seq ?_)
    refine zc_region ?_
    refine z_fa want_none (by decide) rfl ?_
    refine z_loadB want_none (by decide) rfl (by assumption) (by rfl) ?_
    refine z_fa want_none (by decide) rfl ?_
    refine z_loadB want_none (by decide) rfl (by assumption) (by rfl) ?_
    refine z_cmpB (r := true) want_none (by decide) rfl rfl rfl (iff_of_true rfl (by omega)) ?_
    refine zl_pureL rfl ?_
    iterate 5 (refine zl_skip rfl ?_)
    iterate 2 (refine zl_pureL rfl ?_)
    iterate 5 (refine zl_skip rfl ?_)
    iterate 2 (refine zl_pureL rfl ?_)
    iterate 5 (refine zl_skip rfl ?_)
    iterate 2 (refine zl_pureL rfl ?_)
    iterate 5 (refine zl_skip rfl ?_)
    iterate 2 (refine zl_pureL rfl ?_)
    iterate 7 (refine zl_skip rfl ?_)
    refine zl_pureL rfl ?_
    refine zl_nil ?_
    refine zk_seq ?_
    refine zc_true rfl ?_
    refine zc_seq ?_
    refine zc_region ?_
    refine zl_pureL rfl ?_
    refine zl_nil ?_
    refine zk_seq ?_
    refine zc_ret ?_
    refine zk_ret_then ?_
    exact zk_ret1 (.inr rfl) rfl rfl ⟨false, rfl, no_ (fun h => h1 (by rw [h.1])), hC⟩
set_option maxHeartbeats 4000000 in
theorem same_calls : ∀ (f : Nat), SameOk f := by
  intro f
  induction f with
  | zero =>
    intro w v1 v2 t1 t2 g1 g2 hf1 hf2 hs _
    obtain ⟨A1, c1, rfl, hc1⟩ := g1.form
    obtain ⟨A2, c2, rfl, hc2⟩ := g2.form
    cases t1 with
    | cons x k r => simp [NT.size] at hs
    | nil =>
      refine calls_zc (n := 27) (f := 41) (fn := Try.f41) Try.func41 rfl rfl (by simp) ?_
      by_cases h0 : t2.len = 0
      · have h0' := len0 h0
        subst h0'
        refine zc_seq ?_
        refine zc_region ?_
        refine zl_pureL rfl ?_
        refine zl_nil ?_
        refine zk_seq ?_
        iterate 2 (refine zc_seq ?_)
        refine zc_region ?_
        refine zl_pureL rfl ?_
        refine z_len want_none (by decide) rfl ?_
        refine zl_pureL rfl ?_
        refine z_len want_none (by decide) rfl ?_
        refine z_cmpB (r := false) want_none (by decide) rfl rfl rfl (iff_of_false Bool.false_ne_true (by omega)) ?_
        refine zl_nil ?_
        refine zk_seq ?_
        refine zc_false rfl ?_
        refine zc_skip ?_
        refine zk_seq ?_
        iterate 2 (refine zc_seq ?_)
        refine zc_region ?_
        refine zl_pureL rfl ?_
        refine z_len want_none (by decide) rfl ?_
        refine zl_pureL rfl ?_
        refine zl_nil ?_
        refine zk_seq ?_
        refine zc_block ?_
        refine zc_loopW (ι := Nat) (fun i u => [(0, .slice A1 0 c1), (1, .slice A2 0 c2), (12, .int .i64 0), (13, .int .i64 0)]) (fun i u => u = w) (fun i u => 0) 0 rfl ?_ ?_
        · exact ⟨rfl, rfl, rfl, rfl, trivial⟩
        rintro i u rfl
        refine zc_seq ?_
        refine zc_region ?_
        refine z_cmpB (r := false) want_none (by decide) rfl rfl rfl (iff_of_false Bool.false_ne_true (by omega)) ?_
        refine zl_nil ?_
        refine zk_seq ?_
        refine zc_seq ?_
        refine zc_false rfl ?_
        refine zc_exit ?_
        iterate 2 (refine zk_exit_then ?_)
        refine zk_exit_block ?_
        refine zk_seq ?_
        refine zc_seq ?_
        refine zc_region ?_
        refine zl_pureL rfl ?_
        refine zl_nil ?_
        refine zk_seq ?_
        refine zc_ret ?_
        exact zk_ret1 (.inr rfl) rfl rfl ⟨true, rfl, iff_of_true rfl rfl, Chg.refl _ _⟩
      · have hl : NT.nil.len = 0 := rfl
        rw [hl]
        refine zc_seq ?_
        refine zc_region ?_
        refine zl_pureL rfl ?_
        refine zl_nil ?_
        refine zk_seq ?_
        iterate 2 (refine zc_seq ?_)
        refine zc_region ?_
        refine zl_pureL rfl ?_
        refine z_len want_none (by decide) rfl ?_
        refine zl_pureL rfl ?_
        refine z_len want_none (by decide) rfl ?_
        refine z_cmpB (r := true) want_none (by decide) rfl rfl rfl (iff_of_true rfl (by omega)) ?_
        refine zl_nil ?_
        refine zk_seq ?_
        refine zc_true rfl ?_
        refine zc_seq ?_
        refine zc_region ?_
        refine zl_pureL rfl ?_
        refine zl_nil ?_
        refine zk_seq ?_
        refine zc_ret ?_
        refine zk_ret_then ?_
        exact zk_ret1 (.inr rfl) rfl rfl ⟨false, rfl, no_ (fun h => h0 (by rw [← h]; rfl)), Chg.refl _ _⟩
  | succ f ih =>
    intro w v1 v2 t1 t2 g1 g2 hf1 hf2 hs hf
    obtain ⟨A1, c1, hv1, hc1⟩ := g1.form
    obtain ⟨A2, c2, hv2, hc2⟩ := g2.form
    have hls := t1.len_size
    subst hv1; subst hv2
    refine calls_zc (n := 27) (f := 41) (fn := Try.f41) Try.func41 rfl rfl (by simp) ?_
    by_cases hll : t1.len = t2.len
    · refine zc_seq ?_
      refine zc_region ?_
      refine zl_pureL rfl ?_
      refine zl_nil ?_
      refine zk_seq ?_
      iterate 2 (refine zc_seq ?_)
      refine zc_region ?_
      refine zl_pureL rfl ?_
      refine z_len want_none (by decide) rfl ?_
      refine zl_pureL rfl ?_
      refine z_len want_none (by decide) rfl ?_
      refine z_cmpB (r := false) want_none (by decide) rfl rfl rfl (iff_of_false Bool.false_ne_true (by omega)) ?_
      refine zl_nil ?_
      refine zk_seq ?_
      refine zc_false rfl ?_
      refine zc_skip ?_
      refine zk_seq ?_
      iterate 2 (refine zc_seq ?_)
      refine zc_region ?_
      refine zl_pureL rfl ?_
      refine z_len want_none (by decide) rfl ?_
      refine zl_pureL rfl ?_
      refine zl_nil ?_
      refine zk_seq ?_
      refine zc_block ?_
      refine zc_loopW (ι := Nat) (fun i u => [(0, .slice A1 t1.len c1), (1, .slice A2 t2.len c2), (12, .int .i64 t1.len), (13, .int .i64 i)])
        (fun i u => i ≤ t1.len ∧ (t1.dropN i = t2.dropN i ↔ t1 = t2) ∧ Chg w u No) (fun i u => t1.len - i) 0 ⟨Nat.zero_le _, Iff.rfl, Chg.refl _ _⟩ ?_ ?_
      · exact ⟨rfl, rfl, rfl, rfl, trivial⟩
      rintro i u ⟨hi, hd, hC⟩
      by_cases hlt : i < t1.len
      · obtain ⟨b, o, c', x, k, r, A', K, e1, hv, hN, hA, hK⟩ := (g1.no hC).at_ i hlt
        obtain ⟨b', o', c'', y, k', r', A'', K', e2, hv', hN', hA', hK'⟩ := (g2.no hC).at_ i (by omega)
        cases hv; cases hv'
        have hsz := t1.drop_size i
        rw [e1] at hsz
        simp only [NT.size] at hsz
        obtain ⟨hxa, hfk, hfr⟩ := hf1.drop t1 i x k r e1
        obtain ⟨hya, hfk', hfr'⟩ := hf2.drop t2 i y k' r' e2
        have hnx : ¬ (x = y ∧ k = k') → ¬ t1 = t2 := fun hn h => by
          rw [← hd, e1, e2] at h
          simp only [NT.cons.injEq] at h
          exact hn ⟨h.1, h.2.1⟩
        refine zc_seq ?_
        refine zc_region ?_
        refine z_cmpB (r := true) want_none (by decide) rfl rfl rfl (iff_of_true rfl (by omega)) ?_
        refine zl_nil ?_
        refine zk_seq ?_
        refine zc_seq ?_
        refine zc_true rfl ?_
        refine zc_skip ?_
        refine zk_seq ?_
        refine zc_seq ?_
        refine zc_block ?_
        refine zc_seq ?_
        refine zc_region ?_
        iterate 2 (refine zl_pureL rfl ?_)
        refine zl_nil ?_
        refine zk_seq ?_
        refine zc_seq ?_
        refine zc_draw [] (fun w' => Chg u w' No) (.take 0 (.take 1 (.take 2 (.take 3 (.take 4 (.take 5 (.take 6 (.take 7 (.all1 8 (.take 9 (.fin))))))))))) (by rfl) (by kernel_rfl) (by kernel_rfl) (fun w1 hC1 hH1 => ⟨?_, ?_⟩)
        · exact hC1
        iterate 2 (refine zs_take rfl (zt_pure rfl ?_))
        refine zs_rdL rfl want_none rfl (by decide) (fun _ hS => r_ia rfl rfl (by omega) (by omega)) ?_
        refine zs_rdL rfl (by first | exact want_none | exact want_L rfl) rfl (by decide) (fun _ hS => r_loadA (by rfl) rfl ((hN.no hS).agg (by omega))) ?_
        iterate 2 (refine zs_take rfl (zt_pure rfl ?_))
        refine zs_rdL rfl want_none rfl (by decide) (fun _ hS => r_ia rfl rfl (by omega) (by omega)) ?_
        refine zs_rdL rfl (by first | exact want_none | exact want_L rfl) rfl (by decide) (fun _ hS => r_loadA (by rfl) rfl ((hN'.no hS).agg (by omega))) ?_
        refine zs_call rfl (by first | exact want_none | exact want_L rfl) rfl (by decide) rfl (alikeN_calls ih (hA.no hC1) (hA'.no hC1) (hK.no hC1) (hK'.no hC1) hxa hya hfk hfk' (by omega) (by omega)) ?_
        rintro _ u2 ⟨q1, rfl, hq1, hC2⟩
        have hC2 := hC1.no hC2
        refine ⟨_, rfl, hC2, ?_⟩
        cases q1
        · refine zs_take rfl (zt_pure rfl ?_)
          refine zs_fin ?_
          refine zk_seq ?_
          refine zc_true rfl ?_
          refine zc_seq ?_
          refine zc_region ?_
          refine zl_pureL rfl ?_
          refine zl_nil ?_
          refine zk_seq ?_
          refine zc_ret ?_
          refine zk_ret_block ?_
          iterate 2 (refine zk_ret_then ?_)
          refine zk_ret_block ?_
          refine zk_ret_then ?_
          exact zk_ret1 (.inr rfl) rfl rfl ⟨false, rfl, no_ (hnx (fun h => absurd (hq1.2 h) Bool.false_ne_true)), hC.no hC2⟩
        · obtain ⟨hx, hk⟩ := hq1.1 rfl
          refine zs_take rfl (zt_pure rfl ?_)
          refine zs_fin ?_
          refine zk_seq ?_
          refine zc_false rfl ?_
          refine zc_skip ?_
          refine zk_norm_block ?_
          refine zk_seq ?_
          refine zc_region ?_
          refine z_add want_none (by decide) rfl rfl (by omega) (by omega) ?_
          refine zl_pureL rfl ?_
          refine zl_nil ?_
          exact zk_loopW (i + 1) ⟨by omega, drop_iff hd e1 e2 hx hk, hC.no hC2⟩ (by omega) ⟨rfl, rfl, rfl, get_int rfl (by simp), trivial⟩
      · obtain rfl : i = t1.len := by omega
        rw [t1.drop_len, hll, t2.drop_len] at hd
        refine zc_seq ?_
        refine zc_region ?_
        refine z_cmpB (r := false) want_none (by decide) rfl rfl rfl (iff_of_false Bool.false_ne_true (by omega)) ?_
        refine zl_nil ?_
        refine zk_seq ?_
        refine zc_seq ?_
        refine zc_false rfl ?_
        refine zc_exit ?_
        iterate 2 (refine zk_exit_then ?_)
        refine zk_exit_block ?_
        refine zk_seq ?_
        refine zc_seq ?_
        refine zc_region ?_
        refine zl_pureL rfl ?_
        refine zl_nil ?_
        refine zk_seq ?_
        refine zc_ret ?_
        exact zk_ret1 (.inr rfl) rfl rfl ⟨true, rfl, iff_of_true rfl (hd.1 rfl), hC⟩
    · refine zc_seq ?_
      refine zc_region ?_
      refine zl_pureL rfl ?_
      refine zl_nil ?_
      refine zk_seq ?_
      iterate 2 (refine zc_seq ?_)
      refine zc_region ?_
      refine zl_pureL rfl ?_
      refine z_len want_none (by decide) rfl ?_
      refine zl_pureL rfl ?_
      refine z_len want_none (by decide) rfl ?_
      refine z_cmpB (r := true) want_none (by decide) rfl rfl rfl (iff_of_true rfl (by omega)) ?_
      refine zl_nil ?_
      refine zk_seq ?_
      refine zc_true rfl ?_
      refine zc_seq ?_
      refine zc_region ?_
      refine zl_pureL rfl ?_
      refine zl_nil ?_
      refine zk_seq ?_
      refine zc_ret ?_
      refine zk_ret_then ?_
      exact zk_ret1 (.inr rfl) rfl rfl ⟨false, rfl, no_ (fun h => hll (by rw [h])), Chg.refl _ _⟩
end Go.Proofs.Ytjiehalanklapaa.D
