import Derived.Test.YteeibieaapiomaaSInv
/- A Site: Pop; what is true of one that was made since. -/
namespace Go.Proofs.Yteeibieaapiomaa.D
open Go Go.Z Go.Proofs
set_option linter.unusedVariables false
section
variable {w w' w1 w2 : World} {s : Nat} {q : SP} {E : List Ent} {I : List Bool} {m : ByteArray → Int} {N : List ND} {f : Bool}
set_option maxRecDepth 100000 in
set_option maxHeartbeats 8000000 in
theorem sPop_calls (h : IsS w s q E I m N f) (hE0 : 0 < E.length) (hE : E.length ≤ 1000000) (hI : 2 ≤ E.length → (lastE E).n < I.length) (hm : SmallM m) :
    Calls Try.prog 15 [.pointer (some ⟨s, 0, none⟩)].toArray w fun x w' => x = .returned (.bool (decide (2 ≤ E.length))) ∧ ∃ vo, WrS w w' s q { q with vo := vo } ∧
      (if 2 ≤ E.length then IsS w' s { q with vo := vo } E.dropLast (I.set (lastE E).n false) (cntM m (lastE E) (-1)) N f else IsS w' s { q with vo := vo } E I m N f) := by
  have hb := h.blk
  obtain ⟨b, c, hv, hc⟩ := own_b h.own (by omega)
  rw [hv] at hb
  refine calls_zc (n := 27) (f := 15) (fn := Try.f15) Try.func15 rfl rfl (by simp) ?_
  by_cases h2 : 2 ≤ E.length
  rotate_left
  · rw [decide_eq_false h2]
    refine zc_seq ?_
    refine zc_region ?_
    refine zl_pureL rfl ?_
    refine zl_nil ?_
    refine zk_seq ?_
    iterate 2 (refine zc_seq ?_)
    refine zc_region ?_
    iterate 2 (refine zl_pureL rfl ?_)
    refine z_fa want_none (by decide) rfl ?_
    refine z_loadB want_none (by decide) rfl (by assumption) (by rfl) ?_
    refine z_len want_none (by decide) rfl ?_
    refine z_cmpB (r := true) want_none (by decide) rfl rfl rfl (iff_of_true rfl (by omega)) ?_
    refine zl_nil ?_
    refine zk_seq ?_
    refine zc_true rfl ?_
    refine zc_seq ?_
    refine zc_region ?_
    refine zl_pureL rfl ?_
    refine zl_nil ?_
    refine zk_seq ?_
    refine zc_ret ?_
    refine zk_ret_then ?_
    exact zk_ret1 (.inr rfl) rfl rfl ⟨rfl, q.vo, WrS.refl _ _ _, by rw [if_neg h2]; exact h⟩
  rw [decide_eq_true h2]
  refine zc_seq ?_
  refine zc_region ?_
  refine zl_pureL rfl ?_
  refine zl_nil ?_
  refine zk_seq ?_
  iterate 2 (refine zc_seq ?_)
  refine zc_region ?_
  iterate 2 (refine zl_pureL rfl ?_)
  refine z_fa want_none (by decide) rfl ?_
  refine z_loadB want_none (by decide) rfl (by assumption) (by rfl) ?_
  refine z_len want_none (by decide) rfl ?_
  refine z_cmpB (r := false) want_none (by decide) rfl rfl rfl (iff_of_false Bool.false_ne_true (by omega)) ?_
  refine zl_nil ?_
  refine zk_seq ?_
  refine zc_false rfl ?_
  refine zc_skip ?_
  refine zk_seq ?_
  refine zc_seq ?_
  refine zc_region ?_
  iterate 2 (refine zl_pureL rfl ?_)
  refine zl_call (by first | exact want_none | exact want_L rfl) rfl (by decide) rfl (sLast_calls h hE0 hE) ?_
  rintro _ w1 ⟨rfl, hC1⟩
  refine ⟨_, rfl, ?_⟩
  skip
  refine zl_call (by first | exact want_none | exact want_L rfl) rfl (by decide) rfl (sGoes_calls (h.no hC1) (lastE E) (hI h2) hm) ?_
  rintro _ w2 ⟨rfl, h2s, hW2⟩
  refine ⟨_, rfl, ?_⟩
  have hb2 := h2s.blk
  rw [hv] at hb2
  refine zl_nil ?_
  refine zk_seq ?_
  refine zc_seq ?_
  refine zc_draw [14] (fun w' => Blk w' s 72 [.pointer (some ⟨q.pd, 0, none⟩), .pointer (some ⟨q.pm, 0, none⟩), .slice (some ⟨b, 0, none⟩) E.length c, q.vi, .map (some q.r), .bool f]) (.take 0 (.take 1 (.take 2 (.take 3 (.take 4 (.take 5 (.take 6 (.take 7 (.take 8 (.take 9 (.take 10 (.take 11 (.plain 12 (.take 13 (.last 14))))))))))))))) (by rfl) (by kernel_rfl) (by kernel_rfl) (fun w3 hC3 _ => ⟨?_, ?_⟩)
  · exact hb2.no hC3
  have h3 := h2s.no hC3
  iterate 3 (refine zs_take rfl (zt_pure rfl ?_))
  refine zs_rdL rfl want_none rfl (by decide) (fun _ hS => r_fa rfl) ?_
  refine zs_rdL rfl want_none rfl (by decide) (fun _ hS => r_loadB rfl hS (by rfl)) ?_
  iterate 2 (refine zs_take rfl (zt_pure rfl ?_))
  refine zs_rdL rfl want_none rfl (by decide) (fun _ hS => r_fa rfl) ?_
  refine zs_rdL rfl want_none rfl (by decide) (fun _ hS => r_loadB rfl hS (by rfl)) ?_
  refine zs_rdL rfl want_none rfl (by decide) (fun _ hS => r_len rfl) ?_
  refine zs_rdL rfl want_none rfl (by decide) (fun _ hS => r_sub rfl rfl (by omega) (by omega)) ?_
  refine zs_rdL rfl (by first | exact want_none | exact want_L rfl) rfl (by decide) (fun _ hS => r_cutTo (k := E.length - 1) (.inr ⟨_, _, rfl⟩) rfl (optI_eq rfl (by omega)) (by omega)) ?_
  refine zs_plainL rfl rfl ?_
  refine zs_rdL rfl want_none rfl (by decide) (fun _ hS => r_fa rfl) ?_
  have hb3 := hb2.no hC3
  refine zs_storeL rfl (by first | exact want_none | exact want_L rfl) rfl rfl rfl (by assumption) (by first | exact Nat.le_refl _ | simp [Value.cells]) (by simp [Value.cells, Value.oneCell']) (fun w4 hU4 => ?_)
  refine zk_seq ?_
  refine zc_seq ?_
  refine zc_region ?_
  refine zl_pureL rfl ?_
  refine zl_nil ?_
  refine zk_seq ?_
  refine zc_ret ?_
  have hO3 := h3.own
  rw [hv] at hO3
  have hO4 : Own w3 74 3 (.slice (some ⟨b, 0, none⟩) (E.length - 1) c) E.dropLast.length (encE E.dropLast) := by
    rw [List.length_dropLast, List.dropLast_eq_take, encE_take]
    exact hO3.take _ (by omega)
  refine zk_ret1 (.inr rfl) rfl rfl ⟨rfl, .slice (some ⟨b, 0, none⟩) (E.length - 1) c, (WrS.pre hC1 hW2).trans ((WrS.of_no hC3 _ _).trans ⟨hU4.chg.mono (fun k _ hk => .inl hk), ?_⟩), by rw [if_pos h2]; exact h3.blkW hU4 hO4 h3.iso⟩
  rintro k (hk | hk | hk | hk | hk)
  · exact .inl (.inl hk)
  · exact .inl (.inr (.inl (by rw [hv]; exact hk)))
  · exact .inl (.inr (.inr (.inl hk)))
  · exact .inl (.inr (.inr (.inr (.inl hk))))
  · exact .inl (.inr (.inr (.inr (.inr hk))))
end
end Go.Proofs.Yteeibieaapiomaa.D
