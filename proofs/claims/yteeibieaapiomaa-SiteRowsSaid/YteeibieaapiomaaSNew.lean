import Derived.Test.YteeibieaapiomaaSAdd2
/- A Site: New. -/
namespace Go.Proofs.Yteeibieaapiomaa.D
open Go Go.Z Go.Proofs
set_option linter.unusedVariables false
theorem mNew_calls {w : World} : Calls Try.prog 44 [].toArray w fun x w' => ∃ b, x = .returned (.pointer (some ⟨b, 0, none⟩)) ∧ New w w' b 91 [.slice none 0 0] := by
  refine calls_zc (n := 3) (f := 44) (fn := Try.f44) Try.func44 rfl rfl (by simp) ?_
  refine zc_seq ?_
  refine zc_region ?_
  refine zl_pureL rfl ?_
  refine zl_nil ?_
  refine zk_seq ?_
  refine zc_seq ?_
  refine zc_region ?_
  refine z_buildE #[.slice none 0 0] (by first | exact want_none | exact want_L rfl) (by decide) rfl (by kernel_rfl) ?_
  refine z_box (by first | exact want_none | exact want_L rfl) (by decide) rfl (fun w1 b1 hN1 => ?_)
  refine zl_pureL rfl ?_
  refine zl_nil ?_
  refine zk_seq ?_
  refine zc_ret ?_
  exact zk_ret1 (.inr rfl) rfl rfl ⟨b1, rfl, hN1⟩
theorem Inv.new : Inv [en0] [true] (fun _ => 0) rootN :=
  ⟨by decide, rfl, by decide, fun e he => by simp only [List.mem_singleton] at he; subst he; exact ⟨by decide, rfl, rfl⟩, fun n => by
    cases n with
    | zero => exact ⟨fun _ => by decide, fun _ => rfl⟩
    | succ n => simp [en0], by decide, fun k => rfl⟩
set_option maxRecDepth 100000 in
set_option maxHeartbeats 8000000 in
theorem sNew_calls {w0 w : World} (hc : Chg w0 w No) : Calls Try.prog 9 [].toArray w fun x w' => ∃ s q, x = .returned (.pointer (some ⟨s, 0, none⟩)) ∧ SF w0 w' s q [en0] [true] (fun _ => 0) rootN false ∧ q.vm = .slice none 0 0 ∧ w0.heap.size ≤ q.pm := by
  refine calls_zc (n := 27) (f := 9) (fn := Try.f9) Try.func9 rfl rfl (by simp) ?_
  refine zc_seq ?_
  refine zc_region ?_
  refine zl_pureL rfl ?_
  refine zl_nil ?_
  refine zk_seq ?_
  refine zc_seq ?_
  refine zc_region ?_
  refine zl_call (by first | exact want_none | exact want_L rfl) rfl (by decide) rfl new_calls ?_
  rintro _ w1 ⟨pd, vl, Q, rfl, hD1, hC1, hge1⟩
  refine ⟨_, rfl, ?_⟩
  skip
  refine zl_call (by first | exact want_none | exact want_L rfl) rfl (by decide) rfl mNew_calls ?_
  rintro _ w2 ⟨pm, rfl, hN2⟩
  refine ⟨_, rfl, ?_⟩
  skip
  refine z_makeMap (by first | exact want_none | exact want_L rfl) (by decide) (fun w3 r hM3 hC3 hr3 _ => ?_)
  skip
  refine z_buildE #[.pointer (some ⟨pd, 0, none⟩), .pointer (some ⟨pm, 0, none⟩), .slice none 0 0, .slice none 0 0, .map (some r), .bool false] (by first | exact want_none | exact want_L rfl) (by decide) rfl (by kernel_rfl) ?_
  refine z_box (by first | exact want_none | exact want_L rfl) (by decide) rfl (fun w4 s hN4 => ?_)
  have hC4 : Chg w w4 No := ((hC1.no hN2.chg).no hC3).no hN4.chg
  have hs1 := hc.size
  have hs2 := hC1.size
  have hs3 := hN2.chg.size
  have hs4 := hC3.size
  have hpm := hN2.at_
  have hsb := hN4.at_
  have h4 : IsS w4 s ⟨pd, pm, vl, Q, .slice none 0 0, .slice none 0 0, .slice none 0 0, r⟩ [] [] (fun _ => 0) rootN false :=
    ⟨hN4.blk, ((hD1.no hN2.chg).no hC3).no hN4.chg, ((hN2.blk).no hC3).no hN4.chg, Own.nil, Own.nil, hM3.no hN4.chg⟩
  have hge4 : ∀ k, footS s ⟨pd, pm, vl, Q, .slice none 0 0, .slice none 0 0, .slice none 0 0, r⟩ k → w0.heap.size ≤ k := by
    rintro k (hk | hk | hk | hk | hk)
    · omega
    · cases hk
    · cases hk
    · simp only at hk; omega
    · exact Nat.le_trans hs1 (hge1 k hk)
  have hb4 := h4.blk
  dsimp only at hb4
  refine zl_pureL rfl ?_
  refine zl_nil ?_
  refine zk_seq ?_
  refine zc_seq ?_
  refine zc_region ?_
  iterate 3 (refine zl_pureL rfl ?_)
  refine z_fa want_none (by decide) rfl ?_
  refine z_loadB want_none (by decide) rfl (by assumption) (by rfl) ?_
  refine z_buildE #[.int .i64 0, .int .i64 1, .string ⟨#[]⟩] (by first | exact want_none | exact want_L rfl) (by decide) rfl (by kernel_rfl) ?_
  refine z_bs1 (by first | exact want_none | exact want_L rfl) (by decide) rfl (by rfl) (by rfl) (by decide) (by decide) (fun w5 b5 hN5 => ?_)
  have h5 := h4.no hN5.chg
  have hr5 : RdS w5 74 3 (.slice (some ⟨b5, 0, none⟩) 1 1) 1 (encE [en0]) := RdS.new hN5 rfl (encE_one _)
  refine z_appendO (by rfl) (by decide) (by first | exact want_none | exact want_L rfl) (by decide) rfl rfl h5.own hr5 (by decide) (by decide) (fun v6 w6 hO6 hX6 hr6 => ?_)
  obtain ⟨A6, c6, hv6, _⟩ := hO6.rd.form
  subst hv6
  have hb6 := (hb4.no hN5.chg).typ hX6 (fun k hk => h5.own.blk hk) (by decide)
  refine zl_pureL rfl ?_
  refine z_fa want_none (by decide) rfl ?_
  refine z_store (by first | exact want_none | exact want_L rfl) rfl rfl rfl (by assumption) (by first | exact Nat.le_refl _ | simp [Value.cells]) (by simp [Value.cells, Value.oneCell']) (fun w7 hU7 => ?_)
  obtain ⟨h7, hW7⟩ := h5.growO (E' := [en0]) hX6 hO6 hr6 hU7
  have hb7 := h7.blk
  dsimp only at hb7
  refine zl_nil ?_
  refine zk_seq ?_
  refine zc_seq ?_
  refine zc_region ?_
  iterate 3 (refine zl_pureL rfl ?_)
  refine z_fa want_none (by decide) rfl ?_
  refine z_loadB want_none (by decide) rfl (by assumption) (by rfl) ?_
  refine z_bs1 (by first | exact want_none | exact want_L rfl) (by decide) rfl (by rfl) (by rfl) (by decide) (by decide) (fun w8 b8 hN8 => ?_)
  have h8 := h7.no hN8.chg
  have hr8 : RdS w8 4 1 (.slice (some ⟨b8, 0, none⟩) 1 1) 1 (boolC [true]) := RdS.new hN8 rfl (by simp [boolC, Value.oneCell'])
  refine z_appendO (by rfl) (by decide) (by first | exact want_none | exact want_L rfl) (by decide) rfl rfl h8.iso hr8 (by decide) (by decide) (fun v9 w9 hO9 hX9 hr9 => ?_)
  obtain ⟨A9, c9, hv9, _⟩ := hO9.rd.form
  subst hv9
  have hb9 := (hb7.no hN8.chg).typ hX9 (fun k hk => h8.iso.blk hk) (by decide)
  refine zl_pureL rfl ?_
  refine z_fa want_none (by decide) rfl ?_
  refine z_store (by first | exact want_none | exact want_L rfl) rfl rfl rfl (by assumption) (by first | exact Nat.le_refl _ | simp [Value.cells]) (by simp [Value.cells, Value.oneCell']) (fun w10 hU10 => ?_)
  obtain ⟨h10, hW10⟩ := h8.growI (I' := [true]) hX9 hO9 hr9 hU10
  have hW : WrS w4 w10 s _ _ := ((WrS.of_no hN5.chg _ _).trans hW7).trans ((WrS.of_no hN8.chg _ _).trans hW10)
  refine zl_nil ?_
  refine zk_seq ?_
  refine zc_seq ?_
  refine zc_region ?_
  iterate 2 (refine zl_pureL rfl ?_)
  refine zl_nil ?_
  refine zk_seq ?_
  refine zc_ret ?_
  refine zk_ret1 (.inr rfl) rfl rfl ⟨s, _, rfl, ⟨h10, Inv.new, rootN_WF, fun k hk => ?_, ?_⟩, rfl, ?_⟩
  · rcases hW.ft k hk with h1 | h1
    · exact hge4 k h1
    · have := hC4.size; omega
  · exact (hc.no hC4).trans hW.chg (fun i hi hk => by have := hge4 i hk; omega)
  · show w0.heap.size ≤ pm
    omega
end Go.Proofs.Yteeibieaapiomaa.D
