import Derived.Test.YtaagolhokejflaaPZ
/- The document's marks: the calls that write (printed by pwr.py). -/
namespace Go.Proofs.Ytaagolhokejflaa.M
open Go Go.Z Go.Proofs
set_option linter.unusedVariables false
/-- a new row stands behind g -/
theorem IsM.put68 {w w1 w2 : World} {g n : Nat} {v v' : Value} {cs : List Value} {ms : List MV} {L : List Mark} (hC : Chg w w1 No) (hg : g < w.heap.size) (hO : Own w1 32 3 v' n cs) (hn : n = ms.length) (hcs : cs = encM ms) (hf : Frs w.heap.size v') (hA : All2 (MR w1) ms L) (hU : Upd w1 w2 g 68 [v']) : IsM w2 68 g v' L ∧ Wr w w2 g v v' :=
  ⟨IsM.mk' (hU.blk) (hO.upd hU (by decide)) hn hcs (all2_keep hA (K47.upd hU (by decide))), ⟨(hC.mono (fun _ _ h => h.elim)).trans hU.chg (fun _ _ h => .inl h), .inr hf⟩⟩
theorem RdS.blkM {w w' : World} {b : Nat} {m : MV} {x : Mark} (hx : MR w m x) (h : Blk w' b 32 (mval m).cells.toList) : RdS w' 32 3 (.slice (some ⟨b, 0, none⟩) 1 1) 1 (encM [m]) := by
  refine RdS.blk (cells := (mval m).cells.toList) h rfl (Nat.le_refl _) ?_ 0 (fun j u hj => by rw [Nat.zero_add]; exact hj)
  obtain ⟨A, c, hv, _⟩ := hx.2.2.form
  intro u hu
  simp only [encM, List.mem_cons, List.not_mem_nil, or_false] at hu
  rcases hu with rfl | rfl | rfl
  · rfl
  · rfl
  · rw [hv]; rfl
set_option maxHeartbeats 4000000 in
theorem wall32_calls {w : World} {g : Nat} {v : Value} {L : List Mark} (h : IsM w 68 g v L) (hl : L.length ≤ 100000) :
    Calls Try.prog 32 [Value.pointer (some ⟨g, 0, none⟩)].toArray w fun e w' => e = .returned (.tuple #[]) ∧ ∃ v', IsM w' 68 g v' (L ++ [Mark.wall]) ∧ Wr w w' g v v' := by
  have hne := h.ne (by decide)
  obtain ⟨hg, ms, hO, hA⟩ := h
  have hlen := hA.length
  have hx : MR w ⟨-1, ⟨#[]⟩, .slice none 0 0⟩ Mark.wall := ⟨rfl, rfl, AttrS.nil w⟩
  obtain ⟨A, c, rfl, hc⟩ := hO.rd.form
  refine calls_zc (n := 14) (f := 32) (fn := Try.f32) Try.func32 rfl rfl (by simp) ?_
  refine zc_region ?_
  refine zl_pureL rfl ?_
  refine z_bs0 (by first | exact want_none | exact want_L rfl) (by decide) (fun w1 b1 hN1 => ?_)
  have hg1 := hg.no hN1.chg
  iterate 2 (refine zl_pureL rfl ?_)
  refine z_fa want_none (by decide) rfl ?_
  refine z_loadB want_none (by decide) rfl (by assumption) (by rfl) ?_
  have hO1 : Own w1 32 3 _ 0 [] := Own.empty hN1
  refine z_appendO (by rfl) (by decide) (by first | exact want_none | exact want_L rfl) (by decide) rfl rfl hO1 (hO.no hN1.chg).rd (by omega) (by omega) (fun v2 w2 hO2 hC2 hr2 => ?_)
  have hF1 : Frs w.heap.size (.slice (some ⟨b1, 0, none⟩) 0 0) := Frs.blk (hN1.ge (Chg.refl _ No))
  have hC2 := Chg.frs hN1.chg hC2 hF1
  have hF2 := hF1.app hN1.chg.size hr2
  refine z_buildE #[.int .i64 (-1), .string ⟨#[]⟩, .slice none 0 0] (by first | exact want_none | exact want_L rfl) (by decide) rfl (by kernel_rfl) ?_
  refine z_bs1 (by first | exact want_none | exact want_L rfl) (by decide) rfl (by rfl) (by rfl) (by decide) (by decide) (fun w3 b3 hN3 => ?_)
  have hC3 := hC2.new hN3
  have hO3 := hO2.no hN3.chg
  refine z_appendO (by rfl) (by decide) (by first | exact want_none | exact want_L rfl) (by decide) rfl rfl hO3 (RdS.mark (hx.keep (K47.no hC2)) hN3) (by omega) (by omega) (fun v4 w4 hO4 hC4 hr4 => ?_)
  have hC4 := Chg.frs hC3 hC4 hF2
  have hF4 := hF2.app hC3.size hr4
  have hg4 := hg.no hC4
  obtain ⟨A4, c4, rfl, hc4⟩ := hO4.rd.form
  refine zl_pureL rfl ?_
  refine z_fa want_none (by decide) rfl ?_
  refine z_store (by first | exact want_none | exact want_L rfl) rfl rfl rfl (by assumption) (by first | exact Nat.le_refl _ | simp [Value.cells]) (by simp [Value.cells, Value.oneCell']) (fun w5 hU5 => ?_)
  refine zl_nil ?_
  have hI := IsM.put68 (v := .slice A ms.length c) (ms := ms ++ [⟨-1, ⟨#[]⟩, .slice none 0 0⟩]) hC4 hg.lt hO4 (by simp) (by rw [encM_app]; rfl) hF4 (All2.append (all2_keep hA (K47.no hC4)) (All2.one (hx.keep (K47.no hC4)))) hU5
  exact zk_ret0 (.inl rfl) rfl ⟨rfl, _, hI⟩
set_option maxHeartbeats 4000000 in
theorem drop34_calls {w : World} {g : Nat} {v : Value} {L : List Mark} (h : IsM w 68 g v L) (hl : L.length ≤ 100000) (i : Nat) (hi : i < L.length) :
    Calls Try.prog 34 [Value.pointer (some ⟨g, 0, none⟩), .int .i64 i].toArray w fun e w' => e = .returned (.bool true) ∧ ∃ v', IsM w' 68 g v' (dropM L i) ∧ Wr w w' g v v' := by
  have h0 := h
  obtain ⟨hg, ms, hO, hA⟩ := h
  have hlen := hA.length
  rw [hlen] at hO
  obtain ⟨A, c, rfl, hc⟩ := hO.rd.form
  refine calls_zc (n := 28) (f := 34) (fn := Try.f34) Try.func34 rfl rfl (by simp) ?_
  refine zc_seq ?_
  refine zc_region ?_
  refine zl_pureL rfl ?_
  refine zl_nil ?_
  refine zk_seq ?_
  iterate 2 (refine zc_seq ?_)
  refine zc_region ?_
  iterate 2 (refine zl_pureL rfl ?_)
  refine zl_call (by first | exact want_none | exact want_L rfl) rfl (by decide) rfl (is68_calls h0 i hl) ?_
  rintro _ u0 ⟨rfl, rfl⟩
  refine ⟨_, rfl, ?_⟩
  rw [decide_eq_true (by omega)]
  refine zl_pureL rfl ?_
  refine zl_nil ?_
  refine zk_seq ?_
  refine zc_false rfl ?_
  refine zc_skip ?_
  refine zk_seq ?_
  refine zc_seq ?_
  refine zc_draw [19] (fun w' => Blk w' g 68 [.slice A L.length c]) (.take 0 (.take 2 (.take 3 (.take 4 (.take 5 (.take 6 (.take 7 (.take 9 (.take 10 (.take 11 (.take 12 (.take 13 (.take 14 (.take 15 (.all1 1 (.all1 8 (.all1 16 (.plain 17 (.take 18 (.last 19)))))))))))))))))))) (by rfl) (by kernel_rfl) (by kernel_rfl) (fun w1 hC1 hH1 => ⟨?_, ?_⟩)
  · exact hg.no hC1
  iterate 3 (refine zs_take rfl (zt_pure rfl ?_))
  refine zs_rdL rfl want_none rfl (by decide) (fun _ hS => r_fa rfl) ?_
  refine zs_rdL rfl want_none rfl (by decide) (fun _ hS => r_loadB rfl hS (by rfl)) ?_
  refine zs_take rfl (zt_pure rfl ?_)
  refine zs_rdL rfl (by first | exact want_none | exact want_L rfl) rfl (by decide) (fun _ hS => r_cutTo (k := i) hO.flat rfl rfl (by omega)) ?_
  iterate 2 (refine zs_take rfl (zt_pure rfl ?_))
  refine zs_rdL rfl want_none rfl (by decide) (fun _ hS => r_fa rfl) ?_
  refine zs_rdL rfl want_none rfl (by decide) (fun _ hS => r_loadB rfl hS (by rfl)) ?_
  refine zs_take rfl (zt_pure rfl ?_)
  refine zs_rdL rfl want_none rfl (by decide) (fun _ hS => r_add rfl rfl (by omega) (by omega)) ?_
  refine zs_rdL rfl (by first | exact want_none | exact want_L rfl) rfl (by decide) (fun _ hS => r_cutFrom (k := i + 1) rfl rfl (by omega) (by omega)) ?_
  skip
  refine zs_bs0 rfl (by first | exact want_none | exact want_L rfl) (by decide) (fun w3 b3 hN3 => ?_)
  have hC3 := hC1.new hN3
  refine ⟨hg.no hC3, ?_⟩
  have hO3 : Own w3 32 3 _ 0 [] := Own.empty hN3
  have hF3 : Frs u0.heap.size (.slice (some ⟨b3, 0, none⟩) 0 0) := Frs.blk (hN3.ge hC1)
  refine zs_appendO rfl (by rfl) (by decide) (by first | exact want_none | exact want_L rfl) (by decide) rfl rfl hO3 ((hO.no hC3).take i (by omega)).rd (by omega) (by omega) (fun v4 w4 hO4 hC4 hr4 => ?_)
  have hC4 := Chg.frs hC3 hC4 hF3
  have hF4 := hF3.app hC3.size hr4
  refine ⟨hg.no hC4, ?_⟩
  skip
  refine zs_appendO rfl (by rfl) (by decide) (by first | exact want_none | exact want_L rfl) (by decide) rfl rfl hO4 ((hO.no hC4).rd.cut (k := i + 1) (by omega)) (by omega) (by omega) (fun v5 w5 hO5 hC5 hr5 => ?_)
  have hC5 := Chg.frs hC4 hC5 hF4
  have hF5 := hF4.app hC4.size hr5
  refine ⟨hg.no hC5, ?_⟩
  have hg5 := hg.no hC5
  obtain ⟨A5, c5, rfl, hc5⟩ := hO5.rd.form
  refine zs_plainL rfl rfl ?_
  refine zs_rdL rfl want_none rfl (by decide) (fun _ hS => r_fa rfl) ?_
  refine zs_storeL rfl (by first | exact want_none | exact want_L rfl) rfl rfl rfl (by assumption) (by first | exact Nat.le_refl _ | simp [Value.cells]) (by simp [Value.cells, Value.oneCell']) (fun w6 hU6 => ?_)
  refine zk_seq ?_
  refine zc_seq ?_
  refine zc_region ?_
  refine zl_pureL rfl ?_
  refine zl_nil ?_
  refine zk_seq ?_
  refine zc_ret ?_
  have hI := IsM.put68 (v := .slice A L.length c) (ms := ms.take i ++ ms.drop (i + 1)) hC5 hg.lt hO5 (by simp; omega) (by rw [encM_app, encM_take, encM_drop]; rfl) hF5 (All2.append ((all2_keep hA (K47.no hC5)).take i) ((all2_keep hA (K47.no hC5)).drop (i + 1))) hU6
  exact zk_ret1 (.inr rfl) rfl rfl ⟨rfl, _, hI⟩
theorem drop34_out {w : World} {g : Nat} {v : Value} {L : List Mark} (h : IsM w 68 g v L) (hl : L.length ≤ 100000) (i : Int) (hi : i < 0 ∨ (L.length : Int) ≤ i) :
    Calls Try.prog 34 [Value.pointer (some ⟨g, 0, none⟩), .int .i64 i].toArray w fun e w' => e = .returned (.bool false) ∧ w' = w := by
  refine calls_zc (n := 28) (f := 34) (fn := Try.f34) Try.func34 rfl rfl (by simp) ?_
  refine zc_seq ?_
  refine zc_region ?_
  refine zl_pureL rfl ?_
  refine zl_nil ?_
  refine zk_seq ?_
  iterate 2 (refine zc_seq ?_)
  refine zc_region ?_
  iterate 2 (refine zl_pureL rfl ?_)
  refine zl_call (by first | exact want_none | exact want_L rfl) rfl (by decide) rfl (is68_calls h i hl) ?_
  rintro _ u0 ⟨rfl, rfl⟩
  refine ⟨_, rfl, ?_⟩
  rw [decide_eq_false (by omega)]
  refine zl_pureL rfl ?_
  refine zl_nil ?_
  refine zk_seq ?_
  refine zc_true rfl ?_
  refine zc_seq ?_
  refine zc_region ?_
  refine zl_pureL rfl ?_
  refine zl_nil ?_
  refine zk_seq ?_
  refine zc_ret ?_
  refine zk_ret_then ?_
  exact zk_ret1 (.inr rfl) rfl rfl ⟨rfl, rfl⟩
set_option maxHeartbeats 4000000 in
theorem clear33_calls {w : World} {g : Nat} {v : Value} {L : List Mark} (h : IsM w 68 g v L) (hl : L.length ≤ 100000) :
    Calls Try.prog 33 [Value.pointer (some ⟨g, 0, none⟩)].toArray w fun e w' => e = .returned (.tuple #[]) ∧ ∃ v', IsM w' 68 g v' (clearN L) ∧ Wr w w' g v v' := by
  have h0 := h
  obtain ⟨hg, ms, hO, hA⟩ := h
  have hlen := hA.length
  rw [hlen] at hO
  obtain ⟨A, c, rfl, hc⟩ := hO.rd.form
  have hble := beginN_le L L.length
  refine calls_zc (n := 16) (f := 33) (fn := Try.f33) Try.func33 rfl rfl (by simp) ?_
  refine zc_draw [14] (fun w' => Blk w' g 68 [.slice A L.length c]) (.take 0 (.take 2 (.take 3 (.take 4 (.take 5 (.take 6 (.all2 1 (.all1 7 (.take 8 (.take 9 (.take 10 (.all1 11 (.plain 12 (.take 13 (.last 14)))))))) 7 (.take 8 (.take 9 (.take 10 (.all1 1 (.all1 11 (.plain 12 (.take 13 (.last 14))))))))))))))) (by rfl) (by kernel_rfl) (by kernel_rfl) (fun w1 hC1 hH1 => ⟨?_, ?_⟩)
  · exact hg.no hC1
  iterate 3 (refine zs_take rfl (zt_pure rfl ?_))
  refine zs_rdL rfl want_none rfl (by decide) (fun _ hS => r_fa rfl) ?_
  refine zs_rdL rfl want_none rfl (by decide) (fun _ hS => r_loadB rfl hS (by rfl)) ?_
  refine zs_take rfl (zt_pure rfl ?_)
  refine zs_two ?_ ?_
  · refine zo_bs0 rfl (by first | exact want_none | exact want_L rfl) (by decide) (fun w3 b3 hN3 => ?_)
    have hC3 := hC1.new hN3
    refine ⟨hg.no hC3, ?_⟩
    skip
    refine zs_call rfl (by first | exact want_none | exact want_L rfl) rfl (by decide) rfl (wall68_calls (h0.no hC3) hl) ?_
    rintro _ w4 ⟨rfl, rfl⟩
    refine ⟨_, rfl, hg.no hC3, ?_⟩
    have hO3 : Own w4 32 3 _ 0 [] := Own.empty hN3
    have hF3 : Frs w.heap.size (.slice (some ⟨b3, 0, none⟩) 0 0) := Frs.blk (hN3.ge hC1)
    refine zs_rdL rfl want_none rfl (by decide) (fun _ hS => r_sub rfl rfl (by omega) (by omega)) ?_
    refine zs_rdL rfl (by first | exact want_none | exact want_L rfl) rfl (by decide) (fun _ hS => r_max rfl rfl (c := ((beginN L L.length - 1 : Nat) : Int)) (by split <;> omega)) ?_
    refine zs_rdL rfl (by first | exact want_none | exact want_L rfl) rfl (by decide) (fun _ hS => r_cutTo (k := beginN L L.length - 1) hO.flat rfl rfl (by omega)) ?_
    refine zs_appendO rfl (by rfl) (by decide) (by first | exact want_none | exact want_L rfl) (by decide) rfl rfl hO3 ((hO.no hC3).take (beginN L L.length - 1) (by omega)).rd (by omega) (by omega) (fun v5 w5 hO5 hC5 hr5 => ?_)
    have hC5 := Chg.frs hC3 hC5 hF3
    have hF5 := hF3.app hC3.size hr5
    refine ⟨hg.no hC5, ?_⟩
    have hg5 := hg.no hC5
    obtain ⟨A5, c5, rfl, hc5⟩ := hO5.rd.form
    refine zs_plainL rfl rfl ?_
    refine zs_rdL rfl want_none rfl (by decide) (fun _ hS => r_fa rfl) ?_
    refine zs_storeL rfl (by first | exact want_none | exact want_L rfl) rfl rfl rfl (by assumption) (by first | exact Nat.le_refl _ | simp [Value.cells]) (by simp [Value.cells, Value.oneCell']) (fun w6 hU6 => ?_)
    skip
    have hI := IsM.put68 (v := .slice A L.length c) (ms := ms.take (beginN L L.length - 1)) hC5 hg.lt hO5 (by simp; omega) (by rw [encM_take]; rfl) hF5 ((all2_keep hA (K47.no hC5)).take (beginN L L.length - 1)) hU6
    exact zk_ret0 (.inl rfl) rfl ⟨rfl, _, hI⟩
  · refine zo_call rfl (by first | exact want_none | exact want_L rfl) rfl (by decide) rfl (wall68_calls (h0.no hC1) hl) ?_
    rintro _ w4 ⟨rfl, rfl⟩
    refine ⟨_, rfl, hg.no hC1, ?_⟩
    refine zs_rdL rfl want_none rfl (by decide) (fun _ hS => r_sub rfl rfl (by omega) (by omega)) ?_
    refine zs_rdL rfl (by first | exact want_none | exact want_L rfl) rfl (by decide) (fun _ hS => r_max rfl rfl (c := ((beginN L L.length - 1 : Nat) : Int)) (by split <;> omega)) ?_
    refine zs_rdL rfl (by first | exact want_none | exact want_L rfl) rfl (by decide) (fun _ hS => r_cutTo (k := beginN L L.length - 1) hO.flat rfl rfl (by omega)) ?_
    skip
    refine zs_bs0 rfl (by first | exact want_none | exact want_L rfl) (by decide) (fun w3 b3 hN3 => ?_)
    have hC3 := hC1.new hN3
    refine ⟨hg.no hC3, ?_⟩
    have hO3 : Own w3 32 3 _ 0 [] := Own.empty hN3
    have hF3 : Frs w.heap.size (.slice (some ⟨b3, 0, none⟩) 0 0) := Frs.blk (hN3.ge hC1)
    skip
    refine zs_appendO rfl (by rfl) (by decide) (by first | exact want_none | exact want_L rfl) (by decide) rfl rfl hO3 ((hO.no hC3).take (beginN L L.length - 1) (by omega)).rd (by omega) (by omega) (fun v5 w5 hO5 hC5 hr5 => ?_)
    have hC5 := Chg.frs hC3 hC5 hF3
    have hF5 := hF3.app hC3.size hr5
    refine ⟨hg.no hC5, ?_⟩
    have hg5 := hg.no hC5
    obtain ⟨A5, c5, rfl, hc5⟩ := hO5.rd.form
    refine zs_plainL rfl rfl ?_
    refine zs_rdL rfl want_none rfl (by decide) (fun _ hS => r_fa rfl) ?_
    refine zs_storeL rfl (by first | exact want_none | exact want_L rfl) rfl rfl rfl (by assumption) (by first | exact Nat.le_refl _ | simp [Value.cells]) (by simp [Value.cells, Value.oneCell']) (fun w6 hU6 => ?_)
    skip
    have hI := IsM.put68 (v := .slice A L.length c) (ms := ms.take (beginN L L.length - 1)) hC5 hg.lt hO5 (by simp; omega) (by rw [encM_take]; rfl) hF5 ((all2_keep hA (K47.no hC5)).take (beginN L L.length - 1)) hU6
    exact zk_ret0 (.inl rfl) rfl ⟨rfl, _, hI⟩
set_option maxHeartbeats 8000000 in
theorem set35_calls {w : World} {g : Nat} {v av : Value} {L : List Mark} {nd : Int} {nm : ByteArray} {l : List At} (h : IsM w 68 g v L) (hl : L.length ≤ 100000) (ha : AttrS w av l) (i : Nat) (hi : i < L.length) :
    Calls Try.prog 35 [Value.pointer (some ⟨g, 0, none⟩), .int .i64 i, .agg #[.int .i64 nd, .string nm, av]].toArray w fun e w' => e = .returned (.bool true) ∧ ∃ v', IsM w' 68 g v' (L.set i ⟨nd, nm, l⟩) ∧ Wr w w' g v v' := by
  have h0 := h
  obtain ⟨hg, ms, hO, hA⟩ := h
  have hlen := hA.length
  rw [hlen] at hO
  obtain ⟨A, c, rfl, hc⟩ := hO.rd.form
  obtain ⟨A2, c2, rfl, hc2⟩ := ha.form
  refine calls_zc (n := 33) (f := 35) (fn := Try.f35) Try.func35 rfl rfl (by simp) ?_
  refine zc_seq ?_
  refine zc_region ?_
  refine z_box (by first | exact want_none | exact want_L rfl) (by decide) rfl (fun u1 b1 hN1 => ?_)
  have hb1 : Blk u1 b1 32 [.int .i64 nd, .string nm, .slice A2 l.length c2] := hN1.blk
  refine zl_pureL rfl ?_
  refine zl_nil ?_
  refine zk_seq ?_
  iterate 2 (refine zc_seq ?_)
  refine zc_region ?_
  iterate 2 (refine zl_pureL rfl ?_)
  refine zl_call (by first | exact want_none | exact want_L rfl) rfl (by decide) rfl (is68_calls (h0.no hN1.chg) i hl) ?_
  rintro _ u9 ⟨rfl, hu9⟩
  obtain rfl := hu9.symm
  refine ⟨_, rfl, ?_⟩
  rw [decide_eq_true (by omega)]
  have hg1 := hg.no hN1.chg
  have hO1 := hO.no hN1.chg
  have hA1 := all2_keep hA (K47.no hN1.chg)
  have hx : MR u1 ⟨nd, nm, .slice A2 l.length c2⟩ ⟨nd, nm, l⟩ := ⟨rfl, rfl, ha.no hN1.chg⟩
  refine zl_pureL rfl ?_
  refine zl_nil ?_
  refine zk_seq ?_
  refine zc_false rfl ?_
  refine zc_skip ?_
  refine zk_seq ?_
  refine zc_seq ?_
  refine zc_draw [22] (fun w' => Blk w' g 68 [.slice A L.length c] ∧ Blk w' b1 32 [.int .i64 nd, .string nm, .slice A2 l.length c2]) (.take 0 (.take 2 (.take 3 (.take 4 (.take 5 (.take 6 (.take 7 (.take 9 (.take 12 (.take 13 (.take 14 (.take 15 (.take 16 (.take 17 (.take 18 (.all2 1 (.all2 8 (.all1 10 (.all1 11 (.all1 19 (.plain 20 (.take 21 (.last 22)))))) 10 (.all1 8 (.all1 11 (.all1 19 (.plain 20 (.take 21 (.last 22))))))) 10 (.all1 1 (.all1 8 (.all1 11 (.all1 19 (.plain 20 (.take 21 (.last 22))))))))))))))))))))))) (by rfl) (by kernel_rfl) (by kernel_rfl) (fun w1 hC1 hH1 => ⟨?_, ?_⟩)
  · exact ⟨hg1.no hC1, hb1.no hC1⟩
  iterate 3 (refine zs_take rfl (zt_pure rfl ?_))
  refine zs_rdL rfl want_none rfl (by decide) (fun _ hS => r_fa rfl) ?_
  refine zs_rdL rfl want_none rfl (by decide) (fun _ hS => r_loadB rfl hS.1 (by rfl)) ?_
  refine zs_take rfl (zt_pure rfl ?_)
  refine zs_rdL rfl (by first | exact want_none | exact want_L rfl) rfl (by decide) (fun _ hS => r_cutTo (k := i) hO.flat rfl rfl (by omega)) ?_
  refine zs_rdL rfl want_none rfl (by decide) (fun _ hS => r_loadAB rfl hS.2 (by rfl)) ?_
  iterate 2 (refine zs_take rfl (zt_pure rfl ?_))
  refine zs_rdL rfl want_none rfl (by decide) (fun _ hS => r_fa rfl) ?_
  refine zs_rdL rfl want_none rfl (by decide) (fun _ hS => r_loadB rfl hS.1 (by rfl)) ?_
  refine zs_take rfl (zt_pure rfl ?_)
  refine zs_rdL rfl want_none rfl (by decide) (fun _ hS => r_add rfl rfl (by omega) (by omega)) ?_
  refine zs_rdL rfl (by first | exact want_none | exact want_L rfl) rfl (by decide) (fun _ hS => r_cutFrom (k := i + 1) rfl rfl (by omega) (by omega)) ?_
  skip
  refine zs_two ?_ ?_
  · refine zo_bs0 rfl (by first | exact want_none | exact want_L rfl) (by decide) (fun w3 b3 hN3 => ?_)
    have hC3 := hC1.new hN3
    refine ⟨⟨hg1.no hC3, hb1.no hC3⟩, ?_⟩
    have hE : Own w3 32 3 _ 0 [] := Own.empty hN3
    have hF : Frs u1.heap.size (.slice (some ⟨b3, 0, none⟩) 0 0) := Frs.blk (hN3.ge hC1)
    skip
    refine zs_two ?_ ?_
    · refine zo_appendO rfl (by rfl) (by decide) (by first | exact want_none | exact want_L rfl) (by decide) rfl rfl hE ((hO1.no hC3).take i (by omega)).rd (by omega) (by omega) (fun v5 w5 hO5 hD5 hr5 => ?_)
      skip
      have hC5 := Chg.frs hC3 hD5 hF
      have hF5 := hF.app hC3.size hr5
      refine ⟨⟨hg1.no hC5, hb1.no hC5⟩, ?_⟩
      skip
      refine zs_bs1 rfl (by first | exact want_none | exact want_L rfl) (by decide) rfl (by rfl) (by rfl) (by decide) (by decide) (fun w6 b6 hN6 => ?_)
      have hC6 := hC5.new hN6
      refine ⟨⟨hg1.no hC6, hb1.no hC6⟩, ?_⟩
      skip
      refine zs_appendO rfl (by rfl) (by decide) (by first | exact want_none | exact want_L rfl) (by decide) rfl rfl (hO5.no hN6.chg) (RdS.mark (hx.keep (K47.no hC5)) hN6) (by omega) (by omega) (fun v7 w7 hO7 hD7 hr7 => ?_)
      have hC7 := Chg.frs hC6 hD7 hF5
      have hF7 := hF5.app hC6.size hr7
      refine ⟨⟨hg1.no hC7, hb1.no hC7⟩, ?_⟩
      skip
      refine zs_appendO rfl (by rfl) (by decide) (by first | exact want_none | exact want_L rfl) (by decide) rfl rfl hO7 ((hO1.no hC7).rd.cut (k := i + 1) (by omega)) (by omega) (by omega) (fun v8 w8 hO8 hD8 hr8 => ?_)
      have hC8 := Chg.frs hC7 hD8 hF7
      have hF8 := hF7.app hC7.size hr8
      refine ⟨⟨hg1.no hC8, hb1.no hC8⟩, ?_⟩
      have hg9 := hg1.no hC8
      obtain ⟨A9, c9, rfl, hc9⟩ := hO8.rd.form
      refine zs_plainL rfl rfl ?_
      refine zs_rdL rfl want_none rfl (by decide) (fun _ hS => r_fa rfl) ?_
      refine zs_storeL rfl (by first | exact want_none | exact want_L rfl) rfl rfl rfl (by assumption) (by first | exact Nat.le_refl _ | simp [Value.cells]) (by simp [Value.cells, Value.oneCell']) (fun w10 hU => ?_)
      refine zk_seq ?_
      refine zc_seq ?_
      refine zc_region ?_
      refine zl_pureL rfl ?_
      refine zl_nil ?_
      refine zk_seq ?_
      refine zc_ret ?_
      have hA9 := all2_keep hA1 (K47.no hC8)
      have hI := IsM.put68 (v := .slice A L.length c) (ms := (ms.take i ++ [⟨nd, nm, .slice A2 l.length c2⟩]) ++ ms.drop (i + 1)) hC8 hg1.lt hO8 (by simp; omega) (by rw [encM_app, encM_app, encM_take, encM_drop]; rfl) hF8 (All2.append (All2.append (hA9.take i) (All2.one (hx.keep (K47.no hC8)))) (hA9.drop (i + 1))) hU
      rw [show (L.take i ++ [⟨nd, nm, l⟩]) ++ L.drop (i + 1) = L.set i ⟨nd, nm, l⟩ by rw [List.set_eq_take_append_cons_drop, if_pos hi, List.append_assoc]; rfl] at hI
      exact zk_ret1 (.inr rfl) rfl rfl ⟨rfl, _, hI.1, Wr.pre hN1.chg hI.2⟩
    · refine zo_bs1 rfl (by first | exact want_none | exact want_L rfl) (by decide) rfl (by rfl) (by rfl) (by decide) (by decide) (fun w4 b4 hN4 => ?_)
      have hC4 := hC3.new hN4
      refine ⟨⟨hg1.no hC4, hb1.no hC4⟩, ?_⟩
      skip
      have hE := hE.no hN4.chg
      refine zs_appendO rfl (by rfl) (by decide) (by first | exact want_none | exact want_L rfl) (by decide) rfl rfl hE ((hO1.no hC4).take i (by omega)).rd (by omega) (by omega) (fun v5 w5 hO5 hD5 hr5 => ?_)
      have hB5 := hN4.blk.app hD5 (by have := hN3.at_; have := hN3.size; have := hN4.at_; omega)
      have hM := RdS.blkM (hx.keep (K47.no hC4)) hB5
      have hC5 := Chg.frs hC4 hD5 hF
      have hF5 := hF.app hC4.size hr5
      refine ⟨⟨hg1.no hC5, hb1.no hC5⟩, ?_⟩
      skip
      refine zs_appendO rfl (by rfl) (by decide) (by first | exact want_none | exact want_L rfl) (by decide) rfl rfl hO5 hM (by omega) (by omega) (fun v7 w7 hO7 hD7 hr7 => ?_)
      have hC7 := Chg.frs hC5 hD7 hF5
      have hF7 := hF5.app hC5.size hr7
      refine ⟨⟨hg1.no hC7, hb1.no hC7⟩, ?_⟩
      skip
      refine zs_appendO rfl (by rfl) (by decide) (by first | exact want_none | exact want_L rfl) (by decide) rfl rfl hO7 ((hO1.no hC7).rd.cut (k := i + 1) (by omega)) (by omega) (by omega) (fun v8 w8 hO8 hD8 hr8 => ?_)
      have hC8 := Chg.frs hC7 hD8 hF7
      have hF8 := hF7.app hC7.size hr8
      refine ⟨⟨hg1.no hC8, hb1.no hC8⟩, ?_⟩
      have hg9 := hg1.no hC8
      obtain ⟨A9, c9, rfl, hc9⟩ := hO8.rd.form
      refine zs_plainL rfl rfl ?_
      refine zs_rdL rfl want_none rfl (by decide) (fun _ hS => r_fa rfl) ?_
      refine zs_storeL rfl (by first | exact want_none | exact want_L rfl) rfl rfl rfl (by assumption) (by first | exact Nat.le_refl _ | simp [Value.cells]) (by simp [Value.cells, Value.oneCell']) (fun w10 hU => ?_)
      refine zk_seq ?_
      refine zc_seq ?_
      refine zc_region ?_
      refine zl_pureL rfl ?_
      refine zl_nil ?_
      refine zk_seq ?_
      refine zc_ret ?_
      have hA9 := all2_keep hA1 (K47.no hC8)
      have hI := IsM.put68 (v := .slice A L.length c) (ms := (ms.take i ++ [⟨nd, nm, .slice A2 l.length c2⟩]) ++ ms.drop (i + 1)) hC8 hg1.lt hO8 (by simp; omega) (by rw [encM_app, encM_app, encM_take, encM_drop]; rfl) hF8 (All2.append (All2.append (hA9.take i) (All2.one (hx.keep (K47.no hC8)))) (hA9.drop (i + 1))) hU
      rw [show (L.take i ++ [⟨nd, nm, l⟩]) ++ L.drop (i + 1) = L.set i ⟨nd, nm, l⟩ by rw [List.set_eq_take_append_cons_drop, if_pos hi, List.append_assoc]; rfl] at hI
      exact zk_ret1 (.inr rfl) rfl rfl ⟨rfl, _, hI.1, Wr.pre hN1.chg hI.2⟩
  · refine zo_bs1 rfl (by first | exact want_none | exact want_L rfl) (by decide) rfl (by rfl) (by rfl) (by decide) (by decide) (fun w3 b3 hN3 => ?_)
    have hC3 := hC1.new hN3
    refine ⟨⟨hg1.no hC3, hb1.no hC3⟩, ?_⟩
    skip
    refine zs_bs0 rfl (by first | exact want_none | exact want_L rfl) (by decide) (fun w4 b4 hN4 => ?_)
    have hC4 := hC3.new hN4
    refine ⟨⟨hg1.no hC4, hb1.no hC4⟩, ?_⟩
    have hE : Own w4 32 3 _ 0 [] := Own.empty hN4
    have hF : Frs u1.heap.size (.slice (some ⟨b4, 0, none⟩) 0 0) := Frs.blk (hN4.ge hC3)
    have hB4 := hN3.blk.no hN4.chg
    skip
    refine zs_appendO rfl (by rfl) (by decide) (by first | exact want_none | exact want_L rfl) (by decide) rfl rfl hE ((hO1.no hC4).take i (by omega)).rd (by omega) (by omega) (fun v5 w5 hO5 hD5 hr5 => ?_)
    have hB5 := hB4.app hD5 (by have := hN3.at_; have := hN3.size; have := hN4.at_; omega)
    have hM := RdS.blkM (hx.keep (K47.no hC4)) hB5
    have hC5 := Chg.frs hC4 hD5 hF
    have hF5 := hF.app hC4.size hr5
    refine ⟨⟨hg1.no hC5, hb1.no hC5⟩, ?_⟩
    skip
    refine zs_appendO rfl (by rfl) (by decide) (by first | exact want_none | exact want_L rfl) (by decide) rfl rfl hO5 hM (by omega) (by omega) (fun v7 w7 hO7 hD7 hr7 => ?_)
    have hC7 := Chg.frs hC5 hD7 hF5
    have hF7 := hF5.app hC5.size hr7
    refine ⟨⟨hg1.no hC7, hb1.no hC7⟩, ?_⟩
    skip
    refine zs_appendO rfl (by rfl) (by decide) (by first | exact want_none | exact want_L rfl) (by decide) rfl rfl hO7 ((hO1.no hC7).rd.cut (k := i + 1) (by omega)) (by omega) (by omega) (fun v8 w8 hO8 hD8 hr8 => ?_)
    have hC8 := Chg.frs hC7 hD8 hF7
    have hF8 := hF7.app hC7.size hr8
    refine ⟨⟨hg1.no hC8, hb1.no hC8⟩, ?_⟩
    have hg9 := hg1.no hC8
    obtain ⟨A9, c9, rfl, hc9⟩ := hO8.rd.form
    refine zs_plainL rfl rfl ?_
    refine zs_rdL rfl want_none rfl (by decide) (fun _ hS => r_fa rfl) ?_
    refine zs_storeL rfl (by first | exact want_none | exact want_L rfl) rfl rfl rfl (by assumption) (by first | exact Nat.le_refl _ | simp [Value.cells]) (by simp [Value.cells, Value.oneCell']) (fun w10 hU => ?_)
    refine zk_seq ?_
    refine zc_seq ?_
    refine zc_region ?_
    refine zl_pureL rfl ?_
    refine zl_nil ?_
    refine zk_seq ?_
    refine zc_ret ?_
    have hA9 := all2_keep hA1 (K47.no hC8)
    have hI := IsM.put68 (v := .slice A L.length c) (ms := (ms.take i ++ [⟨nd, nm, .slice A2 l.length c2⟩]) ++ ms.drop (i + 1)) hC8 hg1.lt hO8 (by simp; omega) (by rw [encM_app, encM_app, encM_take, encM_drop]; rfl) hF8 (All2.append (All2.append (hA9.take i) (All2.one (hx.keep (K47.no hC8)))) (hA9.drop (i + 1))) hU
    rw [show (L.take i ++ [⟨nd, nm, l⟩]) ++ L.drop (i + 1) = L.set i ⟨nd, nm, l⟩ by rw [List.set_eq_take_append_cons_drop, if_pos hi, List.append_assoc]; rfl] at hI
    exact zk_ret1 (.inr rfl) rfl rfl ⟨rfl, _, hI.1, Wr.pre hN1.chg hI.2⟩
theorem set35_out {w : World} {g : Nat} {v av : Value} {L : List Mark} {nd : Int} {nm : ByteArray} {l : List At} (h : IsM w 68 g v L) (hl : L.length ≤ 100000) (ha : AttrS w av l) (i : Int) (hi : i < 0 ∨ (L.length : Int) ≤ i) :
    Calls Try.prog 35 [Value.pointer (some ⟨g, 0, none⟩), .int .i64 i, .agg #[.int .i64 nd, .string nm, av]].toArray w fun e w' => e = .returned (.bool false) ∧ Chg w w' No := by
  obtain ⟨A2, c2, rfl, hc2⟩ := ha.form
  refine calls_zc (n := 33) (f := 35) (fn := Try.f35) Try.func35 rfl rfl (by simp) ?_
  refine zc_seq ?_
  refine zc_region ?_
  refine z_box (by first | exact want_none | exact want_L rfl) (by decide) rfl (fun u1 b1 hN1 => ?_)
  refine zl_pureL rfl ?_
  refine zl_nil ?_
  refine zk_seq ?_
  iterate 2 (refine zc_seq ?_)
  refine zc_region ?_
  iterate 2 (refine zl_pureL rfl ?_)
  refine zl_call (by first | exact want_none | exact want_L rfl) rfl (by decide) rfl (is68_calls (h.no hN1.chg) i hl) ?_
  rintro _ u0 ⟨rfl, rfl⟩
  refine ⟨_, rfl, ?_⟩
  rw [decide_eq_false (by omega)]
  refine zl_pureL rfl ?_
  refine zl_nil ?_
  refine zk_seq ?_
  refine zc_true rfl ?_
  refine zc_seq ?_
  refine zc_region ?_
  refine zl_pureL rfl ?_
  refine zl_nil ?_
  refine zk_seq ?_
  refine zc_ret ?_
  refine zk_ret_then ?_
  exact zk_ret1 (.inr rfl) rfl rfl ⟨rfl, hN1.chg⟩
set_option maxHeartbeats 8000000 in
theorem put36_calls {w : World} {g : Nat} {v av : Value} {L : List Mark} {nd : Int} {nm : ByteArray} {l : List At} (h : IsM w 68 g v L) (hl : L.length ≤ 100000) (ha : AttrS w av l) (i : Nat) (hi : i ≤ L.length) :
    Calls Try.prog 36 [Value.pointer (some ⟨g, 0, none⟩), .int .i64 i, .agg #[.int .i64 nd, .string nm, av]].toArray w fun e w' => e = .returned (.bool true) ∧ ∃ v', IsM w' 68 g v' (putM L i ⟨nd, nm, l⟩) ∧ Wr w w' g v v' := by
  have h0 := h
  obtain ⟨hg, ms, hO, hA⟩ := h
  have hlen := hA.length
  rw [hlen] at hO
  obtain ⟨A, c, rfl, hc⟩ := hO.rd.form
  obtain ⟨A2, c2, rfl, hc2⟩ := ha.form
  refine calls_zc (n := 41) (f := 36) (fn := Try.f36) Try.func36 rfl rfl (by simp) ?_
  refine zc_seq ?_
  refine zc_region ?_
  refine z_box (by first | exact want_none | exact want_L rfl) (by decide) rfl (fun u1 b1 hN1 => ?_)
  have hb1 : Blk u1 b1 32 [.int .i64 nd, .string nm, .slice A2 l.length c2] := hN1.blk
  have hg1 := hg.no hN1.chg
  have hO1 := hO.no hN1.chg
  have hA1 := all2_keep hA (K47.no hN1.chg)
  have hx : MR u1 ⟨nd, nm, .slice A2 l.length c2⟩ ⟨nd, nm, l⟩ := ⟨rfl, rfl, ha.no hN1.chg⟩
  refine zl_pureL rfl ?_
  refine zl_nil ?_
  refine zk_seq ?_
  refine zc_mid (fun u => u = u1) [(0, .pointer (some ⟨g, 0, none⟩)), (1, .int .i64 i), (5, .pointer (some ⟨b1, 0, none⟩))] ?_ ?_
  · by_cases hq : i = L.length
    · refine zc_seq ?_
      refine zc_region ?_
      iterate 3 (refine zl_pureL rfl ?_)
      refine z_fa want_none (by decide) rfl ?_
      refine z_loadB want_none (by decide) rfl (by assumption) (by rfl) ?_
      refine z_len want_none (by decide) rfl ?_
      refine z_cmpB (r := false) want_none (by decide) rfl rfl rfl (iff_of_false Bool.false_ne_true (by omega)) ?_
      iterate 3 (refine zl_pureL rfl ?_)
      refine zl_skip rfl ?_
      iterate 2 (refine zl_pureL rfl ?_)
      refine zl_nil ?_
      refine zk_seq ?_
      refine zc_false rfl ?_
      refine zc_skip ?_
      exact zk_mid rfl ⟨rfl, rfl, rfl, trivial⟩
    · refine zc_seq ?_
      refine zc_region ?_
      iterate 3 (refine zl_pureL rfl ?_)
      refine z_fa want_none (by decide) rfl ?_
      refine z_loadB want_none (by decide) rfl (by assumption) (by rfl) ?_
      refine z_len want_none (by decide) rfl ?_
      refine z_cmpB (r := true) want_none (by decide) rfl rfl rfl (iff_of_true rfl (by omega)) ?_
      iterate 3 (refine zl_pureL rfl ?_)
      refine zl_call (by first | exact want_none | exact want_L rfl) rfl (by decide) rfl (is68_calls (h0.no hN1.chg) i hl) ?_
      rintro _ u9 ⟨rfl, hu9⟩
      obtain rfl := hu9.symm
      refine ⟨_, rfl, ?_⟩
      rw [decide_eq_true (by omega)]
      iterate 2 (refine zl_pureL rfl ?_)
      refine zl_nil ?_
      refine zk_seq ?_
      refine zc_false rfl ?_
      refine zc_skip ?_
      exact zk_mid rfl ⟨rfl, rfl, rfl, trivial⟩
  intro u9 hu9
  obtain rfl := hu9.symm
  refine zc_seq ?_
  refine zc_draw [21] (fun w' => Blk w' g 68 [.slice A L.length c] ∧ Blk w' b1 32 [.int .i64 nd, .string nm, .slice A2 l.length c2]) (.take 0 (.take 2 (.take 3 (.take 4 (.take 5 (.take 6 (.take 7 (.take 9 (.take 12 (.take 13 (.take 14 (.take 15 (.take 16 (.take 17 (.all2 1 (.all2 8 (.all1 10 (.all1 11 (.all1 18 (.plain 19 (.take 20 (.last 21)))))) 10 (.all1 8 (.all1 11 (.all1 18 (.plain 19 (.take 20 (.last 21))))))) 10 (.all1 1 (.all1 8 (.all1 11 (.all1 18 (.plain 19 (.take 20 (.last 21)))))))))))))))))))))) (by rfl) (by kernel_rfl) (by kernel_rfl) (fun w1 hC1 hH1 => ⟨?_, ?_⟩)
  · exact ⟨hg1.no hC1, hb1.no hC1⟩
  iterate 3 (refine zs_take rfl (zt_pure rfl ?_))
  refine zs_rdL rfl want_none rfl (by decide) (fun _ hS => r_fa rfl) ?_
  refine zs_rdL rfl want_none rfl (by decide) (fun _ hS => r_loadB rfl hS.1 (by rfl)) ?_
  refine zs_take rfl (zt_pure rfl ?_)
  refine zs_rdL rfl (by first | exact want_none | exact want_L rfl) rfl (by decide) (fun _ hS => r_cutTo (k := i) hO.flat rfl rfl (by omega)) ?_
  refine zs_rdL rfl want_none rfl (by decide) (fun _ hS => r_loadAB rfl hS.2 (by rfl)) ?_
  iterate 2 (refine zs_take rfl (zt_pure rfl ?_))
  refine zs_rdL rfl want_none rfl (by decide) (fun _ hS => r_fa rfl) ?_
  refine zs_rdL rfl want_none rfl (by decide) (fun _ hS => r_loadB rfl hS.1 (by rfl)) ?_
  refine zs_take rfl (zt_pure rfl ?_)
  refine zs_rdL rfl (by first | exact want_none | exact want_L rfl) rfl (by decide) (fun _ hS => r_cutFrom (k := i) rfl rfl (by omega) (by omega)) ?_
  skip
  refine zs_two ?_ ?_
  · refine zo_bs0 rfl (by first | exact want_none | exact want_L rfl) (by decide) (fun w3 b3 hN3 => ?_)
    have hC3 := hC1.new hN3
    refine ⟨⟨hg1.no hC3, hb1.no hC3⟩, ?_⟩
    have hE : Own w3 32 3 _ 0 [] := Own.empty hN3
    have hF : Frs u1.heap.size (.slice (some ⟨b3, 0, none⟩) 0 0) := Frs.blk (hN3.ge hC1)
    skip
    refine zs_two ?_ ?_
    · refine zo_appendO rfl (by rfl) (by decide) (by first | exact want_none | exact want_L rfl) (by decide) rfl rfl hE ((hO1.no hC3).take i (by omega)).rd (by omega) (by omega) (fun v5 w5 hO5 hD5 hr5 => ?_)
      skip
      have hC5 := Chg.frs hC3 hD5 hF
      have hF5 := hF.app hC3.size hr5
      refine ⟨⟨hg1.no hC5, hb1.no hC5⟩, ?_⟩
      skip
      refine zs_bs1 rfl (by first | exact want_none | exact want_L rfl) (by decide) rfl (by rfl) (by rfl) (by decide) (by decide) (fun w6 b6 hN6 => ?_)
      have hC6 := hC5.new hN6
      refine ⟨⟨hg1.no hC6, hb1.no hC6⟩, ?_⟩
      skip
      refine zs_appendO rfl (by rfl) (by decide) (by first | exact want_none | exact want_L rfl) (by decide) rfl rfl (hO5.no hN6.chg) (RdS.mark (hx.keep (K47.no hC5)) hN6) (by omega) (by omega) (fun v7 w7 hO7 hD7 hr7 => ?_)
      have hC7 := Chg.frs hC6 hD7 hF5
      have hF7 := hF5.app hC6.size hr7
      refine ⟨⟨hg1.no hC7, hb1.no hC7⟩, ?_⟩
      skip
      refine zs_appendO rfl (by rfl) (by decide) (by first | exact want_none | exact want_L rfl) (by decide) rfl rfl hO7 ((hO1.no hC7).rd.cut (k := i) (by omega)) (by omega) (by omega) (fun v8 w8 hO8 hD8 hr8 => ?_)
      have hC8 := Chg.frs hC7 hD8 hF7
      have hF8 := hF7.app hC7.size hr8
      refine ⟨⟨hg1.no hC8, hb1.no hC8⟩, ?_⟩
      have hg9 := hg1.no hC8
      obtain ⟨A9, c9, rfl, hc9⟩ := hO8.rd.form
      refine zs_plainL rfl rfl ?_
      refine zs_rdL rfl want_none rfl (by decide) (fun _ hS => r_fa rfl) ?_
      refine zs_storeL rfl (by first | exact want_none | exact want_L rfl) rfl rfl rfl (by assumption) (by first | exact Nat.le_refl _ | simp [Value.cells]) (by simp [Value.cells, Value.oneCell']) (fun w10 hU => ?_)
      refine zk_seq ?_
      refine zc_seq ?_
      refine zc_region ?_
      refine zl_pureL rfl ?_
      refine zl_nil ?_
      refine zk_seq ?_
      refine zc_ret ?_
      have hA9 := all2_keep hA1 (K47.no hC8)
      have hI := IsM.put68 (v := .slice A L.length c) (ms := (ms.take i ++ [⟨nd, nm, .slice A2 l.length c2⟩]) ++ ms.drop i) hC8 hg1.lt hO8 (by simp; omega) (by rw [encM_app, encM_app, encM_take, encM_drop]; rfl) hF8 (All2.append (All2.append (hA9.take i) (All2.one (hx.keep (K47.no hC8)))) (hA9.drop i)) hU
      rw [show (L.take i ++ [⟨nd, nm, l⟩]) ++ L.drop i = putM L i ⟨nd, nm, l⟩ by unfold putM; rw [List.append_assoc]; rfl] at hI
      exact zk_ret1 (.inr rfl) rfl rfl ⟨rfl, _, hI.1, Wr.pre hN1.chg hI.2⟩
    · refine zo_bs1 rfl (by first | exact want_none | exact want_L rfl) (by decide) rfl (by rfl) (by rfl) (by decide) (by decide) (fun w4 b4 hN4 => ?_)
      have hC4 := hC3.new hN4
      refine ⟨⟨hg1.no hC4, hb1.no hC4⟩, ?_⟩
      skip
      have hE := hE.no hN4.chg
      refine zs_appendO rfl (by rfl) (by decide) (by first | exact want_none | exact want_L rfl) (by decide) rfl rfl hE ((hO1.no hC4).take i (by omega)).rd (by omega) (by omega) (fun v5 w5 hO5 hD5 hr5 => ?_)
      have hB5 := hN4.blk.app hD5 (by have := hN3.at_; have := hN3.size; have := hN4.at_; omega)
      have hM := RdS.blkM (hx.keep (K47.no hC4)) hB5
      have hC5 := Chg.frs hC4 hD5 hF
      have hF5 := hF.app hC4.size hr5
      refine ⟨⟨hg1.no hC5, hb1.no hC5⟩, ?_⟩
      skip
      refine zs_appendO rfl (by rfl) (by decide) (by first | exact want_none | exact want_L rfl) (by decide) rfl rfl hO5 hM (by omega) (by omega) (fun v7 w7 hO7 hD7 hr7 => ?_)
      have hC7 := Chg.frs hC5 hD7 hF5
      have hF7 := hF5.app hC5.size hr7
      refine ⟨⟨hg1.no hC7, hb1.no hC7⟩, ?_⟩
      skip
      refine zs_appendO rfl (by rfl) (by decide) (by first | exact want_none | exact want_L rfl) (by decide) rfl rfl hO7 ((hO1.no hC7).rd.cut (k := i) (by omega)) (by omega) (by omega) (fun v8 w8 hO8 hD8 hr8 => ?_)
      have hC8 := Chg.frs hC7 hD8 hF7
      have hF8 := hF7.app hC7.size hr8
      refine ⟨⟨hg1.no hC8, hb1.no hC8⟩, ?_⟩
      have hg9 := hg1.no hC8
      obtain ⟨A9, c9, rfl, hc9⟩ := hO8.rd.form
      refine zs_plainL rfl rfl ?_
      refine zs_rdL rfl want_none rfl (by decide) (fun _ hS => r_fa rfl) ?_
      refine zs_storeL rfl (by first | exact want_none | exact want_L rfl) rfl rfl rfl (by assumption) (by first | exact Nat.le_refl _ | simp [Value.cells]) (by simp [Value.cells, Value.oneCell']) (fun w10 hU => ?_)
      refine zk_seq ?_
      refine zc_seq ?_
      refine zc_region ?_
      refine zl_pureL rfl ?_
      refine zl_nil ?_
      refine zk_seq ?_
      refine zc_ret ?_
      have hA9 := all2_keep hA1 (K47.no hC8)
      have hI := IsM.put68 (v := .slice A L.length c) (ms := (ms.take i ++ [⟨nd, nm, .slice A2 l.length c2⟩]) ++ ms.drop i) hC8 hg1.lt hO8 (by simp; omega) (by rw [encM_app, encM_app, encM_take, encM_drop]; rfl) hF8 (All2.append (All2.append (hA9.take i) (All2.one (hx.keep (K47.no hC8)))) (hA9.drop i)) hU
      rw [show (L.take i ++ [⟨nd, nm, l⟩]) ++ L.drop i = putM L i ⟨nd, nm, l⟩ by unfold putM; rw [List.append_assoc]; rfl] at hI
      exact zk_ret1 (.inr rfl) rfl rfl ⟨rfl, _, hI.1, Wr.pre hN1.chg hI.2⟩
  · refine zo_bs1 rfl (by first | exact want_none | exact want_L rfl) (by decide) rfl (by rfl) (by rfl) (by decide) (by decide) (fun w3 b3 hN3 => ?_)
    have hC3 := hC1.new hN3
    refine ⟨⟨hg1.no hC3, hb1.no hC3⟩, ?_⟩
    skip
    refine zs_bs0 rfl (by first | exact want_none | exact want_L rfl) (by decide) (fun w4 b4 hN4 => ?_)
    have hC4 := hC3.new hN4
    refine ⟨⟨hg1.no hC4, hb1.no hC4⟩, ?_⟩
    have hE : Own w4 32 3 _ 0 [] := Own.empty hN4
    have hF : Frs u1.heap.size (.slice (some ⟨b4, 0, none⟩) 0 0) := Frs.blk (hN4.ge hC3)
    have hB4 := hN3.blk.no hN4.chg
    skip
    refine zs_appendO rfl (by rfl) (by decide) (by first | exact want_none | exact want_L rfl) (by decide) rfl rfl hE ((hO1.no hC4).take i (by omega)).rd (by omega) (by omega) (fun v5 w5 hO5 hD5 hr5 => ?_)
    have hB5 := hB4.app hD5 (by have := hN3.at_; have := hN3.size; have := hN4.at_; omega)
    have hM := RdS.blkM (hx.keep (K47.no hC4)) hB5
    have hC5 := Chg.frs hC4 hD5 hF
    have hF5 := hF.app hC4.size hr5
    refine ⟨⟨hg1.no hC5, hb1.no hC5⟩, ?_⟩
    skip
    refine zs_appendO rfl (by rfl) (by decide) (by first | exact want_none | exact want_L rfl) (by decide) rfl rfl hO5 hM (by omega) (by omega) (fun v7 w7 hO7 hD7 hr7 => ?_)
    have hC7 := Chg.frs hC5 hD7 hF5
    have hF7 := hF5.app hC5.size hr7
    refine ⟨⟨hg1.no hC7, hb1.no hC7⟩, ?_⟩
    skip
    refine zs_appendO rfl (by rfl) (by decide) (by first | exact want_none | exact want_L rfl) (by decide) rfl rfl hO7 ((hO1.no hC7).rd.cut (k := i) (by omega)) (by omega) (by omega) (fun v8 w8 hO8 hD8 hr8 => ?_)
    have hC8 := Chg.frs hC7 hD8 hF7
    have hF8 := hF7.app hC7.size hr8
    refine ⟨⟨hg1.no hC8, hb1.no hC8⟩, ?_⟩
    have hg9 := hg1.no hC8
    obtain ⟨A9, c9, rfl, hc9⟩ := hO8.rd.form
    refine zs_plainL rfl rfl ?_
    refine zs_rdL rfl want_none rfl (by decide) (fun _ hS => r_fa rfl) ?_
    refine zs_storeL rfl (by first | exact want_none | exact want_L rfl) rfl rfl rfl (by assumption) (by first | exact Nat.le_refl _ | simp [Value.cells]) (by simp [Value.cells, Value.oneCell']) (fun w10 hU => ?_)
    refine zk_seq ?_
    refine zc_seq ?_
    refine zc_region ?_
    refine zl_pureL rfl ?_
    refine zl_nil ?_
    refine zk_seq ?_
    refine zc_ret ?_
    have hA9 := all2_keep hA1 (K47.no hC8)
    have hI := IsM.put68 (v := .slice A L.length c) (ms := (ms.take i ++ [⟨nd, nm, .slice A2 l.length c2⟩]) ++ ms.drop i) hC8 hg1.lt hO8 (by simp; omega) (by rw [encM_app, encM_app, encM_take, encM_drop]; rfl) hF8 (All2.append (All2.append (hA9.take i) (All2.one (hx.keep (K47.no hC8)))) (hA9.drop i)) hU
    rw [show (L.take i ++ [⟨nd, nm, l⟩]) ++ L.drop i = putM L i ⟨nd, nm, l⟩ by unfold putM; rw [List.append_assoc]; rfl] at hI
    exact zk_ret1 (.inr rfl) rfl rfl ⟨rfl, _, hI.1, Wr.pre hN1.chg hI.2⟩
theorem put36_out {w : World} {g : Nat} {v av : Value} {L : List Mark} {nd : Int} {nm : ByteArray} {l : List At} (h : IsM w 68 g v L) (hl : L.length ≤ 100000) (ha : AttrS w av l) (i : Int) (hi : i < 0 ∨ (L.length : Int) < i) :
    Calls Try.prog 36 [Value.pointer (some ⟨g, 0, none⟩), .int .i64 i, .agg #[.int .i64 nd, .string nm, av]].toArray w fun e w' => e = .returned (.bool false) ∧ Chg w w' No := by
  obtain ⟨A2, c2, rfl, hc2⟩ := ha.form
  obtain ⟨A, c, rfl, hc⟩ := h.form
  refine calls_zc (n := 41) (f := 36) (fn := Try.f36) Try.func36 rfl rfl (by simp) ?_
  refine zc_seq ?_
  refine zc_region ?_
  refine z_box (by first | exact want_none | exact want_L rfl) (by decide) rfl (fun u1 b1 hN1 => ?_)
  have h1 := h.no hN1.chg
  have hg1 := h1.1
  refine zl_pureL rfl ?_
  refine zl_nil ?_
  refine zk_seq ?_
  iterate 2 (refine zc_seq ?_)
  refine zc_region ?_
  iterate 3 (refine zl_pureL rfl ?_)
  refine z_fa want_none (by decide) rfl ?_
  refine z_loadB want_none (by decide) rfl (by assumption) (by rfl) ?_
  refine z_len want_none (by decide) rfl ?_
  refine z_cmpB (r := true) want_none (by decide) rfl rfl rfl (iff_of_true rfl (by omega)) ?_
  iterate 3 (refine zl_pureL rfl ?_)
  refine zl_call (by first | exact want_none | exact want_L rfl) rfl (by decide) rfl (is68_calls h1 i hl) ?_
  rintro _ u0 ⟨rfl, rfl⟩
  refine ⟨_, rfl, ?_⟩
  rw [decide_eq_false (by omega)]
  iterate 2 (refine zl_pureL rfl ?_)
  refine zl_nil ?_
  refine zk_seq ?_
  refine zc_true rfl ?_
  refine zc_seq ?_
  refine zc_region ?_
  refine zl_pureL rfl ?_
  refine zl_nil ?_
  refine zk_seq ?_
  refine zc_ret ?_
  refine zk_ret_then ?_
  exact zk_ret1 (.inr rfl) rfl rfl ⟨rfl, hN1.chg⟩
set_option maxHeartbeats 8000000 in
theorem push37_calls {w : World} {g : Nat} {v av : Value} {L : List Mark} {nd : Int} {nm : ByteArray} {l : List At} (h : IsM w 68 g v L) (hl : L.length ≤ 100000) (ha : AttrS w av l) (hal : l.length ≤ 100000) (hLal : ∀ m ∈ L, m.attrs.length ≤ 100000)
    (hcmp : ∀ m ∈ L, (decide (m.name = nm) && rsame m.attrs l) = alike ⟨nd, nm, l⟩ m) :
    Calls Try.prog 37 [Value.pointer (some ⟨g, 0, none⟩), .agg #[.int .i64 nd, .string nm, av]].toArray w fun e w' => e = .returned (.tuple #[]) ∧ ∃ v', IsM w' 68 g v' (pushM L ⟨nd, nm, l⟩) ∧ Wr w w' g v v' := by
  obtain ⟨A2, c2, hv2, hc2⟩ := ha.form
  subst hv2
  obtain ⟨A0, c0, hv0, hc0⟩ := h.form
  subst hv0
  refine calls_zc (n := 63) (f := 37) (fn := Try.f37) Try.func37 rfl rfl (by simp) ?_
  refine zc_seq ?_
  refine zc_region ?_
  refine z_box (by first | exact want_none | exact want_L rfl) (by decide) rfl (fun w1 b1 hN1 => ?_)
  have hb1 : Blk w1 b1 32 [.int .i64 nd, .string nm, .slice A2 l.length c2] := hN1.blk
  have hg1 := (h.no hN1.chg).1
  refine zl_nil ?_
  refine zk_seq ?_
  refine zc_seq ?_
  refine zc_region ?_
  iterate 2 (refine zl_pureL rfl ?_)
  refine zl_nil ?_
  refine zk_seq ?_
  iterate 2 (refine zc_seq ?_)
  refine zc_region ?_
  iterate 2 (refine zl_pureL rfl ?_)
  refine z_fa want_none (by decide) rfl ?_
  refine z_loadB want_none (by decide) rfl (by assumption) (by rfl) ?_
  refine z_len want_none (by decide) rfl ?_
  refine z_sub want_none (by decide) rfl rfl (by omega) (by omega) ?_
  refine zl_pureL rfl ?_
  refine zl_nil ?_
  refine zk_seq ?_
  refine zc_block ?_
  refine zc_midB (fun w4 => Chg w1 w4 No) [(0, .pointer (some ⟨g, 0, none⟩)), (3, .pointer (some ⟨b1, 0, none⟩)), (4, .int .i64 (firstF L ⟨nd, nm, l⟩ (beginN L L.length) (L.length - beginN L L.length))), (5, .int .i64 (manyF L ⟨nd, nm, l⟩ (beginN L L.length)))] ?_ ?_
  · refine zc_loopW (ι := Nat) (fun k u => [(0, .pointer (some ⟨g, 0, none⟩)), (3, .pointer (some ⟨b1, 0, none⟩)), (4, .int .i64 (firstF L ⟨nd, nm, l⟩ k (L.length - k))), (5, .int .i64 (manyF L ⟨nd, nm, l⟩ k)), (6, .int .i64 ((k : Int) - 1))])
      (fun k u => beginN L L.length ≤ k ∧ k ≤ L.length ∧ Chg w1 u No) (fun k u => k) L.length ⟨beginN_le _ _, Nat.le_refl _, Chg.refl _ _⟩ ?_ ?_
    · refine ⟨rfl, rfl, ?_, ?_, rfl, trivial⟩
      · simp [firstF]; rfl
      · simp [manyF]; rfl
    rintro k w2 ⟨hbk, hk, hC⟩
    have h2 := (h.no hN1.chg).no hC
    have hb2 := hb1.no hC
    have hg2 := h2.1
    iterate 2 (refine zc_seq ?_)
    refine zc_region ?_
    iterate 2 (refine zl_pureL rfl ?_)
    refine zl_call (by first | exact want_none | exact want_L rfl) rfl (by decide) rfl (wall68_calls h2 hl) ?_
    rintro _ w3 ⟨rfl, hw3⟩
    obtain rfl := hw3.symm
    refine ⟨_, rfl, ?_⟩
    skip
    refine z_cmp (by first | exact want_none | exact want_L rfl) (by decide) rfl rfl rfl (fun hc => ?_) (fun hc => ?_)
    · have hk0 : 0 < k := by omega
      obtain ⟨k, rfl⟩ : ∃ j, k = j + 1 := ⟨k - 1, by omega⟩
      obtain ⟨b, c, A3, hv3, e0, e1, e2, ha3⟩ := h2.at_ k (by omega)
      cases hv3
      have hmem : L.getD k Mark.z ∈ L := getD_mem (by omega)
      have hcm := hcmp _ hmem
      have hcons := drop_cons Mark.z L k (by omega)
      have hm1 : alike ⟨nd, nm, l⟩ (L.getD k Mark.z) = true → manyF L ⟨nd, nm, l⟩ (k + 1) + 1 = manyF L ⟨nd, nm, l⟩ k ∧ (k : Int) = firstF L ⟨nd, nm, l⟩ k (L.length - k) := fun ht => by
        refine ⟨?_, ?_⟩
        · unfold manyF; rw [hcons, List.filter_cons, if_pos ht]; rfl
        · rw [show L.length - k = (L.length - (k + 1)) + 1 by omega, firstF, if_pos ht]
      have hm0 : alike ⟨nd, nm, l⟩ (L.getD k Mark.z) = false → manyF L ⟨nd, nm, l⟩ (k + 1) = manyF L ⟨nd, nm, l⟩ k ∧ firstF L ⟨nd, nm, l⟩ (k + 1) (L.length - (k + 1)) = firstF L ⟨nd, nm, l⟩ k (L.length - k) := fun ht => by
        refine ⟨?_, ?_⟩
        · unfold manyF; rw [hcons, List.filter_cons, if_neg (by rw [ht]; exact Bool.false_ne_true)]
        · rw [show L.length - k = (L.length - (k + 1)) + 1 by omega, firstF, if_neg (by rw [ht]; exact Bool.false_ne_true)]
      have hml := manyF_le L ⟨nd, nm, l⟩ (k + 1)
      refine zl_nil ?_
      refine zk_seq ?_
      refine zc_true rfl ?_
      refine zc_skip ?_
      refine zk_seq ?_
      refine zc_seq ?_
      refine zc_block ?_
      refine zc_seq ?_
      refine zc_draw [] (fun w' => Chg w2 w' No ∧ Blk w' g 68 [.slice (some ⟨b, 0, none⟩) L.length c0] ∧ Blk w' b1 32 [.int .i64 nd, .string nm, .slice A2 l.length c2]) (.take 0 (.take 1 (.take 2 (.take 3 (.take 4 (.take 5 (.take 6 (.take 7 (.take 8 (.take 9 (.take 10 (.take 11 (.take 12 (.take 13 (.take 14 (.take 15 (.take 16 (.take 17 (.take 18 (.take 19 (.take 20 (.take 21 (.all1 22 (.take 23 (.fin))))))))))))))))))))))))) (by rfl) (by kernel_rfl) (by kernel_rfl) (fun w1 hC1 hH1 => ⟨?_, ?_⟩)
      · exact ⟨‹_›, hg2.no ‹_›, hb2.no ‹_›⟩
      iterate 2 (refine zs_take rfl (zt_pure rfl ?_))
      refine zs_rdL rfl want_none rfl (by decide) (fun _ hS => r_fa rfl) ?_
      refine zs_rdL rfl want_none rfl (by decide) (fun _ hS => r_loadB rfl hS.2.1 (by rfl)) ?_
      refine zs_take rfl (zt_pure rfl ?_)
      refine zs_rdL rfl want_none rfl (by decide) (fun _ hS => r_ia rfl rfl (by omega) (by omega)) ?_
      refine zs_rdL rfl want_none rfl (by decide) (fun _ hS => r_fa rfl) ?_
      refine zs_rdL rfl (by first | exact want_none | exact want_L rfl) rfl (by decide) (fun _ hS => r_load1 rfl (cell_at (cell_no hS.1 e1) (by omega))) ?_
      refine zs_rdL rfl want_none rfl (by decide) (fun _ hS => r_fa rfl) ?_
      refine zs_rdL rfl want_none rfl (by decide) (fun _ hS => r_loadB rfl hS.2.2 (by rfl)) ?_
      refine zs_eqS rfl (by first | exact want_none | exact want_L rfl) (by decide) rfl rfl (fun hc => ?_) (fun hc => ?_)
      · iterate 3 (refine zs_take rfl (zt_pure rfl ?_))
        refine zs_rdL rfl (want_L rfl) rfl (by decide) (fun _ hS => r_fa rfl) ?_
        refine zs_rdL rfl (want_L rfl) rfl (by decide) (fun _ hS => r_loadB rfl hS.2.1 (by rfl)) ?_
        refine zs_take rfl (zt_pure rfl ?_)
        refine zs_rdL rfl (want_L rfl) rfl (by decide) (fun _ hS => r_ia rfl rfl (by omega) (by omega)) ?_
        refine zs_rdL rfl (want_L rfl) rfl (by decide) (fun _ hS => r_fa rfl) ?_
        refine zs_rdL rfl (by first | exact want_none | exact want_L rfl) rfl (by decide) (fun _ hS => r_load1 rfl (cell_at (cell_no hS.1 e2) (by omega))) ?_
        refine zs_rdL rfl (want_L rfl) rfl (by decide) (fun _ hS => r_fa rfl) ?_
        refine zs_rdL rfl (want_L rfl) rfl (by decide) (fun _ hS => r_loadB rfl hS.2.2 (by rfl)) ?_
        refine zs_call rfl (by first | exact want_none | exact want_L rfl) rfl (by decide) rfl (same3_calls (ha3.no ‹Chg w2 _ No›) ((ha.no hN1.chg).no (hC.no ‹Chg w2 _ No›)) (hLal _ hmem) hal) ?_
        rintro _ w7 ⟨rfl, hC7⟩
        have hC7 := Chg.no ‹Chg w2 _ No› hC7
        refine ⟨_, rfl, ⟨hC7, hg2.no hC7, hb2.no hC7⟩, ?_⟩
        rw [decide_eq_true (by assumption), Bool.true_and] at hcm
        rw [hcm]
        cases hs : alike ⟨nd, nm, l⟩ (L.getD k Mark.z)
        · obtain ⟨hm1, hm2⟩ := hm0 hs
          refine zs_take rfl (zt_pure rfl ?_)
          refine zs_fin ?_
          refine zk_seq ?_
          refine zc_false rfl ?_
          refine zc_skip ?_
          refine zk_norm_block ?_
          refine zk_seq ?_
          refine zc_region ?_
          refine zl_pureL rfl ?_
          refine z_sub want_none (by decide) rfl rfl (by omega) (by omega) ?_
          refine zl_pureL rfl ?_
          refine zl_nil ?_
          refine zk_loopW k ⟨by omega, by omega, (hC.no hC7)⟩ (by omega) ⟨rfl, rfl, get_int rfl hm2, get_int rfl (by omega), get_int rfl (by omega), trivial⟩
        · obtain ⟨hm1, hm2⟩ := hm1 hs
          refine zs_take rfl (zt_pure rfl ?_)
          refine zs_fin ?_
          refine zk_seq ?_
          refine zc_true rfl ?_
          refine zc_seq ?_
          refine zc_region ?_
          iterate 2 (refine zl_pureL rfl ?_)
          refine zl_nil ?_
          refine zk_seq ?_
          refine zc_region ?_
          refine zl_pureL rfl ?_
          refine z_add want_none (by decide) rfl rfl (by omega) (by omega) ?_
          refine zl_pureL rfl ?_
          refine zl_nil ?_
          refine zk_norm_block ?_
          refine zk_seq ?_
          refine zc_region ?_
          refine zl_pureL rfl ?_
          refine z_sub want_none (by decide) rfl rfl (by omega) (by omega) ?_
          refine zl_pureL rfl ?_
          refine zl_nil ?_
          refine zk_loopW k ⟨by omega, by omega, (hC.no hC7)⟩ (by omega) ⟨rfl, rfl, get_int rfl (by omega), get_int rfl (by omega), get_int rfl (by omega), trivial⟩
      · rw [decide_eq_false (by assumption), Bool.false_and] at hcm
        obtain ⟨hm1, hm2⟩ := hm0 hcm.symm
        iterate 3 (refine zs_take rfl (zt_pure rfl ?_))
        iterate 2 (refine zs_take rfl (zt_skip rfl ?_))
        refine zs_take rfl (zt_pure rfl ?_)
        iterate 5 (refine zs_take rfl (zt_skip rfl ?_))
        refine zs_alone rfl (za_skip rfl ?_)
        refine zs_take rfl (zt_pure rfl ?_)
        refine zs_fin ?_
        refine zk_seq ?_
        refine zc_false rfl ?_
        refine zc_skip ?_
        refine zk_norm_block ?_
        refine zk_seq ?_
        refine zc_region ?_
        refine zl_pureL rfl ?_
        refine z_sub want_none (by decide) rfl rfl (by omega) (by omega) ?_
        refine zl_pureL rfl ?_
        refine zl_nil ?_
        refine zk_loopW k ⟨by omega, by omega, (hC.no ‹Chg w2 _ No›)⟩ (by omega) ⟨rfl, rfl, get_int rfl hm2, get_int rfl (by omega), get_int rfl (by omega), trivial⟩
    · obtain rfl : k = beginN L L.length := by omega
      refine zl_nil ?_
      refine zk_seq ?_
      refine zc_false rfl ?_
      refine zc_exit ?_
      iterate 2 (refine zk_exit_then ?_)
      refine zk_exit_block ?_
      exact zk_mid hC ⟨rfl, rfl, rfl, rfl, trivial⟩
  intro w2 hC
  have hCw := hN1.chg.no hC
  have hml := manyF_le L ⟨nd, nm, l⟩ (beginN L L.length)
  have h2 := h.no hCw
  have hb2 : Blk w2 b1 32 [.int .i64 nd, .string nm, .slice A2 l.length c2] := hb1.no hC
  iterate 2 (refine zc_seq ?_)
  refine zc_region ?_
  refine zl_pureL rfl ?_
  refine z_cmpB (r := decide (3 ≤ manyF L ⟨nd, nm, l⟩ (beginN L L.length))) (by first | exact want_none | exact want_L rfl) (by decide) rfl rfl rfl (by simp; omega) ?_
  refine zl_nil ?_
  refine zk_seq ?_
  refine zc_midT (fun w4 => ∃ v4 M, IsM w4 68 g v4 M ∧ M.length ≤ 100000 ∧ M = (if 3 ≤ manyF L ⟨nd, nm, l⟩ (beginN L L.length) then dropM L (firstF L ⟨nd, nm, l⟩ (beginN L L.length) (L.length - beginN L L.length)).toNat else L) ∧ Wr w w4 g (.slice A0 L.length c0) v4 ∧ Blk w4 b1 32 [.int .i64 nd, .string nm, .slice A2 l.length c2] ∧ AttrS w4 (.slice A2 l.length c2) l)
    [(0, .pointer (some ⟨g, 0, none⟩)), (3, .pointer (some ⟨b1, 0, none⟩))] ?_ ?_
  · have hb1v : (Value.slice A0 L.length c0).ownBlock ≠ some b1 := fun he => by
      have := h.lt _ (.inr he); have := hN1.at_; omega
    refine zc_cond rfl (fun ht => ?_) (fun hf => ?_)
    · have h3 : 3 ≤ manyF L ⟨nd, nm, l⟩ (beginN L L.length) := of_decide_eq_true ht
      obtain ⟨hf0, hf1⟩ := firstF_lt L ⟨nd, nm, l⟩ _ (beginN L L.length) rfl (beginN_le _ _) (by omega)
      obtain ⟨j, hj⟩ := Int.eq_ofNat_of_zero_le hf0
      rw [hj] at hf1 ⊢
      refine zc_region ?_
      iterate 2 (refine zl_pureL rfl ?_)
      refine zl_call (by first | exact want_none | exact want_L rfl) rfl (by decide) rfl (drop34_calls h2 hl j (by omega)) ?_
      rintro _ w5 ⟨rfl, v5, hI5, hW5⟩
      refine ⟨_, rfl, ?_⟩
      refine zl_nil ?_
      refine zk_mid ⟨v5, _, hI5, by unfold dropM; simp; omega, by rw [if_pos h3]; simp, Wr.pre hCw hW5, hb2.chg hW5.chg ?_, ?_⟩ ⟨rfl, rfl, trivial⟩
      · rintro (he | he)
        · exact hb2.ne h2.1 (by decide) he
        · exact hb1v he
      · exact (ha.no hCw).keep (fun b cells hb => hb.chg hW5.chg (h2.foot47 (by decide) b cells hb))
    · have h3 : ¬ 3 ≤ manyF L ⟨nd, nm, l⟩ (beginN L L.length) := of_decide_eq_false hf
      refine zc_skip ?_
      exact zk_mid ⟨_, _, h2, hl, by rw [if_neg h3], Wr.of_no hCw _ _, hb2, ha.no hCw⟩ ⟨rfl, rfl, trivial⟩
  rintro u1 ⟨v4, M, hI4, hMl, hM, hW4, hb1, ha4⟩
  obtain ⟨A, c, hv4, hc⟩ := hI4.form
  subst hv4
  obtain ⟨hg1, ms, hO1, hA1⟩ := hI4
  have hlen := hA1.length
  rw [hlen] at hO1
  have hx : MR u1 ⟨nd, nm, .slice A2 l.length c2⟩ ⟨nd, nm, l⟩ := ⟨rfl, rfl, ha4⟩
  unfold pushM
  rw [← hM]
  clear hM hCw hb2 h2 hN1
  skip
  refine zc_draw [12] (fun w' => Blk w' g 68 [.slice A M.length c] ∧ Blk w' b1 32 [.int .i64 nd, .string nm, .slice A2 l.length c2]) (.take 0 (.take 2 (.take 3 (.take 4 (.take 5 (.take 7 (.all2 1 (.all2 6 (.all1 8 (.all1 9 (.plain 10 (.take 11 (.last 12))))) 8 (.all1 6 (.all1 9 (.plain 10 (.take 11 (.last 12)))))) 8 (.all1 1 (.all1 6 (.all1 9 (.plain 10 (.take 11 (.last 12))))))))))))) (by rfl) (by kernel_rfl) (by kernel_rfl) (fun w1 hC1 hH1 => ⟨?_, ?_⟩)
  · exact ⟨hg1.no ‹Chg u1 _ No›, hb1.no ‹Chg u1 _ No›⟩
  have hC1 := ‹Chg u1 _ No›
  iterate 3 (refine zs_take rfl (zt_pure rfl ?_))
  refine zs_rdL rfl want_none rfl (by decide) (fun _ hS => r_fa rfl) ?_
  refine zs_rdL rfl want_none rfl (by decide) (fun _ hS => r_loadB rfl hS.1 (by rfl)) ?_
  refine zs_rdL rfl want_none rfl (by decide) (fun _ hS => r_loadAB rfl hS.2 (by rfl)) ?_
  refine zs_two ?_ ?_
  · refine zo_bs0 rfl (by first | exact want_none | exact want_L rfl) (by decide) (fun w3 b3 hN3 => ?_)
    have hC3 := hC1.new hN3
    refine ⟨⟨hg1.no hC3, hb1.no hC3⟩, ?_⟩
    have hE : Own w3 32 3 _ 0 [] := Own.empty hN3
    have hF : Frs u1.heap.size (.slice (some ⟨b3, 0, none⟩) 0 0) := Frs.blk (hN3.ge hC1)
    skip
    refine zs_two ?_ ?_
    · refine zo_appendO rfl (by rfl) (by decide) (by first | exact want_none | exact want_L rfl) (by decide) rfl rfl hE (hO1.no hC3).rd (by omega) (by omega) (fun v5 w5 hO5 hD5 hr5 => ?_)
      skip
      have hC5 := Chg.frs hC3 hD5 hF
      have hF5 := hF.app hC3.size hr5
      refine ⟨⟨hg1.no hC5, hb1.no hC5⟩, ?_⟩
      skip
      refine zs_bs1 rfl (by first | exact want_none | exact want_L rfl) (by decide) rfl (by rfl) (by rfl) (by decide) (by decide) (fun w6 b6 hN6 => ?_)
      have hC6 := hC5.new hN6
      refine ⟨⟨hg1.no hC6, hb1.no hC6⟩, ?_⟩
      skip
      refine zs_appendO rfl (by rfl) (by decide) (by first | exact want_none | exact want_L rfl) (by decide) rfl rfl (hO5.no hN6.chg) (RdS.mark (hx.keep (K47.no hC5)) hN6) (by omega) (by omega) (fun v7 w7 hO7 hD7 hr7 => ?_)
      have hC7 := Chg.frs hC6 hD7 hF5
      have hF7 := hF5.app hC6.size hr7
      refine ⟨⟨hg1.no hC7, hb1.no hC7⟩, ?_⟩
      have hg9 := hg1.no hC7
      obtain ⟨A9, c9, rfl, hc9⟩ := hO7.rd.form
      refine zs_plainL rfl rfl ?_
      refine zs_rdL rfl want_none rfl (by decide) (fun _ hS => r_fa rfl) ?_
      refine zs_storeL rfl (by first | exact want_none | exact want_L rfl) rfl rfl rfl (by assumption) (by first | exact Nat.le_refl _ | simp [Value.cells]) (by simp [Value.cells, Value.oneCell']) (fun w10 hU => ?_)
      skip
      have hA9 := all2_keep hA1 (K47.no hC7)
      have hI := IsM.put68 (v := .slice A M.length c) (ms := ms ++ [⟨nd, nm, .slice A2 l.length c2⟩]) hC7 hg1.lt hO7 (by simp; omega) (by rw [encM_app]; rfl) hF7 (All2.append hA9 (All2.one (hx.keep (K47.no hC7)))) hU
      exact zk_ret0 (.inl rfl) rfl ⟨rfl, _, hI.1, hW4.trans hI.2⟩
    · refine zo_bs1 rfl (by first | exact want_none | exact want_L rfl) (by decide) rfl (by rfl) (by rfl) (by decide) (by decide) (fun w4 b4 hN4 => ?_)
      have hC4 := hC3.new hN4
      refine ⟨⟨hg1.no hC4, hb1.no hC4⟩, ?_⟩
      skip
      have hE := hE.no hN4.chg
      refine zs_appendO rfl (by rfl) (by decide) (by first | exact want_none | exact want_L rfl) (by decide) rfl rfl hE (hO1.no hC4).rd (by omega) (by omega) (fun v5 w5 hO5 hD5 hr5 => ?_)
      have hB5 := hN4.blk.app hD5 (by have := hN3.at_; have := hN3.size; have := hN4.at_; omega)
      have hM := RdS.blkM (hx.keep (K47.no hC4)) hB5
      have hC5 := Chg.frs hC4 hD5 hF
      have hF5 := hF.app hC4.size hr5
      refine ⟨⟨hg1.no hC5, hb1.no hC5⟩, ?_⟩
      skip
      refine zs_appendO rfl (by rfl) (by decide) (by first | exact want_none | exact want_L rfl) (by decide) rfl rfl hO5 hM (by omega) (by omega) (fun v7 w7 hO7 hD7 hr7 => ?_)
      have hC7 := Chg.frs hC5 hD7 hF5
      have hF7 := hF5.app hC5.size hr7
      refine ⟨⟨hg1.no hC7, hb1.no hC7⟩, ?_⟩
      have hg9 := hg1.no hC7
      obtain ⟨A9, c9, rfl, hc9⟩ := hO7.rd.form
      refine zs_plainL rfl rfl ?_
      refine zs_rdL rfl want_none rfl (by decide) (fun _ hS => r_fa rfl) ?_
      refine zs_storeL rfl (by first | exact want_none | exact want_L rfl) rfl rfl rfl (by assumption) (by first | exact Nat.le_refl _ | simp [Value.cells]) (by simp [Value.cells, Value.oneCell']) (fun w10 hU => ?_)
      skip
      have hA9 := all2_keep hA1 (K47.no hC7)
      have hI := IsM.put68 (v := .slice A M.length c) (ms := ms ++ [⟨nd, nm, .slice A2 l.length c2⟩]) hC7 hg1.lt hO7 (by simp; omega) (by rw [encM_app]; rfl) hF7 (All2.append hA9 (All2.one (hx.keep (K47.no hC7)))) hU
      exact zk_ret0 (.inl rfl) rfl ⟨rfl, _, hI.1, hW4.trans hI.2⟩
  · refine zo_bs1 rfl (by first | exact want_none | exact want_L rfl) (by decide) rfl (by rfl) (by rfl) (by decide) (by decide) (fun w3 b3 hN3 => ?_)
    have hC3 := hC1.new hN3
    refine ⟨⟨hg1.no hC3, hb1.no hC3⟩, ?_⟩
    skip
    refine zs_bs0 rfl (by first | exact want_none | exact want_L rfl) (by decide) (fun w4 b4 hN4 => ?_)
    have hC4 := hC3.new hN4
    refine ⟨⟨hg1.no hC4, hb1.no hC4⟩, ?_⟩
    have hE : Own w4 32 3 _ 0 [] := Own.empty hN4
    have hF : Frs u1.heap.size (.slice (some ⟨b4, 0, none⟩) 0 0) := Frs.blk (hN4.ge hC3)
    have hB4 := hN3.blk.no hN4.chg
    skip
    refine zs_appendO rfl (by rfl) (by decide) (by first | exact want_none | exact want_L rfl) (by decide) rfl rfl hE (hO1.no hC4).rd (by omega) (by omega) (fun v5 w5 hO5 hD5 hr5 => ?_)
    have hB5 := hB4.app hD5 (by have := hN3.at_; have := hN3.size; have := hN4.at_; omega)
    have hM := RdS.blkM (hx.keep (K47.no hC4)) hB5
    have hC5 := Chg.frs hC4 hD5 hF
    have hF5 := hF.app hC4.size hr5
    refine ⟨⟨hg1.no hC5, hb1.no hC5⟩, ?_⟩
    skip
    refine zs_appendO rfl (by rfl) (by decide) (by first | exact want_none | exact want_L rfl) (by decide) rfl rfl hO5 hM (by omega) (by omega) (fun v7 w7 hO7 hD7 hr7 => ?_)
    have hC7 := Chg.frs hC5 hD7 hF5
    have hF7 := hF5.app hC5.size hr7
    refine ⟨⟨hg1.no hC7, hb1.no hC7⟩, ?_⟩
    have hg9 := hg1.no hC7
    obtain ⟨A9, c9, rfl, hc9⟩ := hO7.rd.form
    refine zs_plainL rfl rfl ?_
    refine zs_rdL rfl want_none rfl (by decide) (fun _ hS => r_fa rfl) ?_
    refine zs_storeL rfl (by first | exact want_none | exact want_L rfl) rfl rfl rfl (by assumption) (by first | exact Nat.le_refl _ | simp [Value.cells]) (by simp [Value.cells, Value.oneCell']) (fun w10 hU => ?_)
    skip
    have hA9 := all2_keep hA1 (K47.no hC7)
    have hI := IsM.put68 (v := .slice A M.length c) (ms := ms ++ [⟨nd, nm, .slice A2 l.length c2⟩]) hC7 hg1.lt hO7 (by simp; omega) (by rw [encM_app]; rfl) hF7 (All2.append hA9 (All2.one (hx.keep (K47.no hC7)))) hU
    exact zk_ret0 (.inl rfl) rfl ⟨rfl, _, hI.1, hW4.trans hI.2⟩
end Go.Proofs.Ytaagolhokejflaa.M
