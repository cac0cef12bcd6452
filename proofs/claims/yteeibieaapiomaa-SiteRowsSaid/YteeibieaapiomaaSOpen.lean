import Derived.Test.YteeibieaapiomaaSDrop
/- A Site: Open. -/
namespace Go.Proofs.Yteeibieaapiomaa.D
open Go Go.Z Go.Proofs
set_option linter.unusedVariables false
section
variable {w w' w1 w2 : World} {s : Nat} {q : SP} {E : List Ent} {I : List Bool} {m : ByteArray → Int} {N : List ND} {f : Bool}
set_option maxRecDepth 100000 in
set_option maxHeartbeats 8000000 in
theorem sOpen_calls (h : IsS w s q E I m N f) (hE : E.length ≤ 1000000) :
    Calls Try.prog 20 [.pointer (some ⟨s, 0, none⟩)].toArray w fun x w' => ∃ v, x = .returned v ∧ Ints w' w.heap.size v (E.map Ent.n) ∧ Chg w w' No := by
  have hb := h.blk
  obtain ⟨A, c, hv, hc⟩ := h.own.rd.form
  rw [hv] at hb
  refine calls_zc (n := 22) (f := 20) (fn := Try.f20) Try.func20 rfl rfl (by simp) ?_
  refine zc_seq ?_
  refine zc_region ?_
  refine zl_pureL rfl ?_
  refine zl_nil ?_
  refine zk_seq ?_
  refine zc_seq ?_
  refine zc_region ?_
  refine zl_pureL rfl ?_
  refine zl_nil ?_
  refine zk_seq ?_
  iterate 2 (refine zc_seq ?_)
  refine zc_region ?_
  iterate 2 (refine zl_pureL rfl ?_)
  refine z_fa want_none (by decide) rfl ?_
  refine z_loadB want_none (by decide) rfl (by assumption) (by rfl) ?_
  refine z_len want_none (by decide) rfl ?_
  refine zl_pureL rfl ?_
  refine zl_nil ?_
  refine zk_seq ?_
  refine zc_block ?_
  refine zc_loopW (ι := Nat × Value) (fun k u => [(3, k.2), (9, .slice A E.length c), (10, .int .i64 E.length), (11, .int .i64 (k.1 : Nat))]) (fun k u => k.1 ≤ E.length ∧ Ints u w.heap.size k.2 ((E.map Ent.n).take k.1) ∧ Chg w u No) (fun k u => E.length - k.1) (0, .slice none 0 0) ⟨Nat.zero_le _, ⟨Own.nil, fun j hj => by cases hj⟩, Chg.refl _ _⟩ ?_ ?_
  · exact ⟨rfl, rfl, rfl, rfl, trivial⟩
  rintro ⟨k, v⟩ u ⟨hk, hI, hC⟩
  dsimp only at hk hI hC ⊢
  have hlk : ((E.map Ent.n).take k).length = k := by rw [List.length_take, List.length_map]; omega
  by_cases hlt : k < E.length
  rotate_left
  · obtain rfl : k = E.length := by omega
    rw [List.take_of_length_le (by simp)] at hI
    refine zc_seq ?_
    refine zc_region ?_
    refine z_cmpB (r := false) want_none (by decide) rfl rfl rfl (iff_of_false Bool.false_ne_true (by omega)) ?_
    refine zl_nil ?_
    refine zk_seq ?_
    refine zc_seq ?_
    refine zc_false rfl ?_
    refine zc_exit ?_
    iterate 2 (refine zk_exit_then ?_)
    refine zk_exit_block ?_
    refine zk_seq ?_
    refine zc_seq ?_
    refine zc_region ?_
    iterate 2 (refine zl_pureL rfl ?_)
    refine zl_nil ?_
    refine zk_seq ?_
    refine zc_ret ?_
    exact zk_ret1 (.inr rfl) rfl rfl ⟨_, rfl, hI, hC⟩
  obtain ⟨b, o, c', hv', g0, g1, g2⟩ := (h.no hC).at_ k hlt
  rw [hv] at hv'
  cases hv'
  obtain ⟨en, hen⟩ : ∃ en, en = E.getD k en0 := ⟨_, rfl⟩
  rw [← hen] at g0 g1 g2
  refine zc_seq ?_
  refine zc_region ?_
  refine z_cmpB (r := true) want_none (by decide) rfl rfl rfl (iff_of_true rfl (by omega)) ?_
  refine zl_nil ?_
  refine zk_seq ?_
  refine zc_seq ?_
  refine zc_true rfl ?_
  refine zc_skip ?_
  refine zk_seq ?_
  refine zc_seq ?_
  refine zc_block ?_
  refine zc_seq ?_
  refine zc_region ?_
  refine z_ia want_none (by decide) rfl rfl (by omega) (by omega) ?_
  refine z_loadA (by rfl) (by first | exact want_none | exact want_L rfl) (by decide) rfl (agg3 g0 g1 g2 (by omega)) ?_
  refine z_alloc (by first | exact want_none | exact want_L rfl) (by decide) (fun u1 b1 hN1 => ?_)
  have hb1 : Blk u1 b1 74 [.int .i64 0, .int .i64 0, .string ⟨#[]⟩] := hN1.blk
  refine z_store (by first | exact want_none | exact want_L rfl) rfl rfl rfl (by assumption) (by first | exact Nat.le_refl _ | simp [Value.cells]) (by simp [Value.cells, Value.oneCell']) (fun u2 hU2 => ?_)
  have hb2 : Blk u2 b1 74 [.int .i64 en.n, .int .i64 en.sp, .string en.nm] := hU2.blk
  have hC2 : Chg u u2 No := hN1.chg.upd hU2 (hN1.ge (Chg.refl _ No))
  have hI2 := hI.no hC2
  refine zl_nil ?_
  refine zk_seq ?_
  refine zc_region ?_
  refine zl_pureL rfl ?_
  refine z_fa want_none (by decide) rfl ?_
  refine z_loadB want_none (by decide) rfl (by assumption) (by rfl) ?_
  refine z_bs1 (by first | exact want_none | exact want_L rfl) (by decide) rfl (by rfl) (by rfl) (by decide) (by decide) (fun u3 b3 hN3 => ?_)
  have hr3 : RdS u3 3 1 (.slice (some ⟨b3, 0, none⟩) 1 1) 1 (intC [en.n]) := RdS.new hN3 rfl (intC_one _)
  have hI3 := hI2.no hN3.chg
  refine z_appendO (by rfl) (by decide) (by first | exact want_none | exact want_L rfl) (by decide) rfl rfl hI3.1 hr3 (by omega) (by omega) (fun v4 u4 hO4 hX4 hr4 => ?_)
  have hC3 : Chg w u3 No := (hC.no hC2).no hN3.chg
  have hC4 : Chg w u4 No := Chg.newS hC3 hX4 hI3.2
  have et : (E.map Ent.n).take (k + 1) = (E.map Ent.n).take k ++ [en.n] := by
    rw [List.take_add_one, List.getElem?_map, List.getElem?_eq_getElem hlt, hen, List.getD_eq_getElem?_getD, List.getElem?_eq_getElem hlt]; rfl
  have hI4 : Ints u4 w.heap.size v4 ((E.map Ent.n).take (k + 1)) := by
    refine ⟨?_, hI3.2.app hC3.size hr4⟩
    rw [et, List.length_append, intC_app]; exact hO4
  refine zl_pureL rfl ?_
  refine zl_nil ?_
  refine zk_norm_block ?_
  refine zk_seq ?_
  refine zc_region ?_
  refine z_add want_none (by decide) rfl rfl (by omega) (by omega) ?_
  refine zl_pureL rfl ?_
  refine zl_nil ?_
  refine zk_loopW (k + 1, v4) ⟨by dsimp only; omega, hI4, hC4⟩ (by dsimp only; omega) ⟨rfl, rfl, rfl, rfl, trivial⟩
end
end Go.Proofs.Yteeibieaapiomaa.D
