import Derived.Test.YteeibieaapiomaaSSite
/- A Site: opened, fresh, place, Top, Open. -/
namespace Go.Proofs.Yteeibieaapiomaa.D
open Go Go.Z Go.Proofs
set_option linter.unusedVariables false
def opn (I : List Bool) (n : Int) : Prop := 0 ≤ n ∧ n < I.length ∧ I.getD n.toNat false = true
instance (I : List Bool) (n : Int) : Decidable (opn I n) := by unfold opn; infer_instance
section
variable {w w' : World} {s : Nat} {q : SP} {E : List Ent} {I : List Bool} {m : ByteArray → Int} {N : List ND} {f : Bool}
theorem sTop_calls (h : IsS w s q E I m N f) (hE : 0 < E.length) (hl : E.length ≤ 1000000) : Calls Try.prog 21 [.pointer (some ⟨s, 0, none⟩)].toArray w fun e w' => e = .returned (.int .i64 (lastE E).n) ∧ Chg w w' No := by
  refine calls_zc (n := 6) (f := 21) (fn := Try.f21) Try.func21 rfl rfl (by simp) ?_
  refine zc_seq ?_
  refine zc_region ?_
  refine zl_pureL rfl ?_
  refine zl_nil ?_
  refine zk_seq ?_
  refine zc_seq ?_
  refine zc_region ?_
  refine zl_pureL rfl ?_
  refine zl_call (by first | exact want_none | exact want_L rfl) rfl (by decide) rfl (sLast_calls h hE hl) ?_
  rintro _ w1 ⟨rfl, hC1⟩
  refine ⟨_, rfl, ?_⟩
  refine z_field (by first | exact want_none | exact want_L rfl) (by decide) rfl (fld3 _ _ _ _) ?_
  refine zl_pureL rfl ?_
  refine zl_nil ?_
  refine zk_seq ?_
  refine zc_ret ?_
  exact zk_ret1 (.inr rfl) rfl rfl ⟨rfl, hC1⟩
theorem sOpened_calls (h : IsS w s q E I m N f) (n : Int) : Calls Try.prog 84 [.pointer (some ⟨s, 0, none⟩), .int .i64 n].toArray w fun e w' => e = .returned (.bool (decide (opn I n))) ∧ w' = w := by
  have hb := h.blk
  obtain ⟨A, c, hv, hc⟩ := h.iso.rd.form
  rw [hv] at hb
  refine calls_zc (n := 25) (f := 84) (fn := Try.f84) Try.func84 rfl rfl (by simp) ?_
  by_cases h0 : 0 ≤ n
  · by_cases h1 : n < I.length
    · obtain ⟨i, rfl⟩ := Int.eq_ofNat_of_zero_le h0
      obtain ⟨b, o, c', hv', _, hcc⟩ := RdS.some h.iso.rd (by omega)
      rw [hv] at hv'
      cases hv'
      have hcell := hcc i _ (boolC_get I i (by omega))
      refine zc_seq ?_
      refine zc_region ?_
      refine zl_pureL rfl ?_
      refine zl_nil ?_
      refine zk_seq ?_
      refine zc_seq ?_
      refine zc_region ?_
      refine zl_pureL rfl ?_
      refine z_cmpB (r := true) want_none (by decide) rfl rfl rfl (iff_of_true rfl (by omega)) ?_
      iterate 4 (refine zl_pureL rfl ?_)
      refine z_fa (want_L rfl) (by decide) rfl ?_
      refine z_loadB (want_L rfl) (by decide) rfl (by assumption) (by rfl) ?_
      refine z_len (want_L rfl) (by decide) rfl ?_
      refine z_cmpB (r := true) (want_L rfl) (by decide) rfl rfl rfl (iff_of_true rfl (by omega)) ?_
      iterate 4 (refine zl_pureL rfl ?_)
      refine z_fa (want_L rfl) (by decide) rfl ?_
      refine z_loadB (want_L rfl) (by decide) rfl (by assumption) (by rfl) ?_
      refine zl_pureL rfl ?_
      refine z_ia (want_L rfl) (by decide) rfl rfl (by omega) (by omega) ?_
      refine z_load1 (by first | exact want_none | exact want_L rfl) (by decide) rfl (cell_at hcell (by omega)) ?_
      have e : decide (opn I (i : Nat)) = I.getD i false := by
        unfold opn
        simp [h0, h1]
      rw [e]
      cases hq : I.getD i false
      · iterate 2 (refine zl_pureL rfl ?_)
        refine zl_nil ?_
        refine zk_seq ?_
        refine zc_ret ?_
        exact zk_ret1 (.inr rfl) rfl rfl ⟨rfl, rfl⟩
      · iterate 2 (refine zl_pureL rfl ?_)
        refine zl_nil ?_
        refine zk_seq ?_
        refine zc_ret ?_
        exact zk_ret1 (.inr rfl) rfl rfl ⟨rfl, rfl⟩
    · have e : decide (opn I n) = false := decide_eq_false (fun hh => h1 hh.2.1)
      rw [e]
      refine zc_seq ?_
      refine zc_region ?_
      refine zl_pureL rfl ?_
      refine zl_nil ?_
      refine zk_seq ?_
      refine zc_seq ?_
      refine zc_region ?_
      refine zl_pureL rfl ?_
      refine z_cmpB (r := true) want_none (by decide) rfl rfl rfl (iff_of_true rfl (by omega)) ?_
      iterate 4 (refine zl_pureL rfl ?_)
      refine z_fa (want_L rfl) (by decide) rfl ?_
      refine z_loadB (want_L rfl) (by decide) rfl (by assumption) (by rfl) ?_
      refine z_len (want_L rfl) (by decide) rfl ?_
      refine z_cmpB (r := false) (want_L rfl) (by decide) rfl rfl rfl (iff_of_false Bool.false_ne_true (by omega)) ?_
      iterate 4 (refine zl_pureL rfl ?_)
      iterate 2 (refine zl_skip rfl ?_)
      refine zl_pureL rfl ?_
      iterate 2 (refine zl_skip rfl ?_)
      iterate 2 (refine zl_pureL rfl ?_)
      refine zl_nil ?_
      refine zk_seq ?_
      refine zc_ret ?_
      exact zk_ret1 (.inr rfl) rfl rfl ⟨rfl, rfl⟩
  · have e : decide (opn I n) = false := decide_eq_false (fun hh => h0 hh.1)
    rw [e]
    refine zc_seq ?_
    refine zc_region ?_
    refine zl_pureL rfl ?_
    refine zl_nil ?_
    refine zk_seq ?_
    refine zc_seq ?_
    refine zc_region ?_
    refine zl_pureL rfl ?_
    refine z_cmpB (r := false) want_none (by decide) rfl rfl rfl (iff_of_false Bool.false_ne_true (by omega)) ?_
    iterate 4 (refine zl_pureL rfl ?_)
    iterate 4 (refine zl_skip rfl ?_)
    iterate 4 (refine zl_pureL rfl ?_)
    iterate 2 (refine zl_skip rfl ?_)
    refine zl_pureL rfl ?_
    iterate 2 (refine zl_skip rfl ?_)
    iterate 2 (refine zl_pureL rfl ?_)
    refine zl_nil ?_
    refine zk_seq ?_
    refine zc_ret ?_
    exact zk_ret1 (.inr rfl) rfl rfl ⟨rfl, rfl⟩
def freshB (N : List ND) (I : List Bool) (n : Int) : Bool := decide ((nodeOf N n).kind = 1 ∧ ¬ opn I n)
set_option maxRecDepth 100000 in
set_option maxHeartbeats 8000000 in
theorem sFresh_calls (h : IsS w s q E I m N f) (hB : BigT N) (n : Int) : Calls Try.prog 50 [.pointer (some ⟨s, 0, none⟩), .int .i64 n].toArray w fun e w' => e = .returned (.tuple #[.agg #[.int .i64 n, .int .i64 (nodeOf N n).space, .string (nodeOf N n).name], .bool (freshB N I n)]) ∧ Chg w w' No := by
  have hb := h.blk
  refine calls_zc (n := 28) (f := 50) (fn := Try.f50) Try.func50 rfl rfl (by simp) ?_
  refine zc_seq ?_
  refine zc_region ?_
  refine z_alloc (by first | exact want_none | exact want_L rfl) (by decide) (fun w1 b1 hN1 => ?_)
  have hb1 : Blk w1 b1 74 [.int .i64 0, .int .i64 0, .string ⟨#[]⟩] := hN1.blk
  have hbs := hb.no hN1.chg
  refine zl_pureL rfl ?_
  refine zl_nil ?_
  refine zk_seq ?_
  refine zc_seq ?_
  refine zc_region ?_
  iterate 2 (refine zl_pureL rfl ?_)
  refine z_fa want_none (by decide) rfl ?_
  refine z_loadB want_none (by decide) rfl (by assumption) (by rfl) ?_
  refine zl_pureL rfl ?_
  refine zl_call (by first | exact want_none | exact want_L rfl) rfl (by decide) rfl (node_calls (h.doc.no hN1.chg) hB n) ?_
  rintro _ w2 ⟨va, rfl, hA2, _, hX2⟩
  have hC2 : Chg w w2 No := hN1.chg.no hX2
  refine ⟨_, rfl, ?_⟩
  obtain ⟨A4, c4, rfl, _⟩ := hA2.form
  skip
  refine z_alloc (by first | exact want_none | exact want_L rfl) (by decide) (fun w3 b3 hN3 => ?_)
  have hb3 : Blk w3 b3 52 [.int .i64 0, .int .i64 0, .string ⟨#[]⟩, .slice none 0 0, .string ⟨#[]⟩, .int .i64 0, .slice none 0 0] := hN3.blk
  refine z_store (by first | exact want_none | exact want_L rfl) rfl rfl rfl (by assumption) (by first | exact Nat.le_refl _ | simp [Value.cells]) (by simp [Value.cells, Value.oneCell']) (fun w4 hU4 => ?_)
  have hb4 : Blk w4 b3 52 [.int .i64 (nodeOf N n).kind, .int .i64 (nodeOf N n).space, .string (nodeOf N n).name, .slice A4 (nodeOf N n).attrs.length c4, .string (bs (nodeOf N n).text), .int .i64 0, .slice none 0 0] := hU4.blk
  have hC4 : Chg w w4 No := (hC2.no hN3.chg).upd hU4 (by have := hN3.at_; have := hC2.size; omega)
  have hb14 : Blk w4 b1 74 [.int .i64 0, .int .i64 0, .string ⟨#[]⟩] := ((hb1.no hX2).no hN3.chg).upd hU4 (by decide)
  have h4 := h.no hC4
  have hne : b1 ≠ b3 := fun he => hb14.ne hb4 (by decide) he
  have hge : w.heap.size ≤ b1 := hN1.ge (Chg.refl _ No)
  obtain ⟨kd, hkd⟩ : ∃ kd, kd = (nodeOf N n).kind := ⟨_, rfl⟩
  have hfb : freshB N I n = decide (kd = 1 ∧ ¬ opn I n) := by unfold freshB; rw [hkd]
  rw [← hkd] at hb4
  by_cases hk1 : kd = 1
  · refine zl_nil ?_
    refine zk_seq ?_
    refine zc_seq ?_
    refine zc_draw [] (fun w' => Blk w' b3 52 [.int .i64 kd, .int .i64 (nodeOf N n).space, .string (nodeOf N n).name, .slice A4 (nodeOf N n).attrs.length c4, .string (bs (nodeOf N n).text), .int .i64 0, .slice none 0 0]) (.take 0 (.take 1 (.take 2 (.take 3 (.take 4 (.take 5 (.take 6 (.take 7 (.take 8 (.take 9 (.take 10 (.take 11 (.all1 12 (.take 13 (.take 14 (.all1 15 (.take 16 (.fin)))))))))))))))))) (by rfl) (by kernel_rfl) (by kernel_rfl) (fun w5 hC5 _ => ⟨?_, ?_⟩)
    · exact hb4.no hC5
    refine zs_take rfl (zt_pure rfl ?_)
    refine zs_rdL rfl want_none rfl (by decide) (fun _ hS => r_fa rfl) ?_
    refine zs_rdL rfl want_none rfl (by decide) (fun _ hS => r_loadB rfl hS (by rfl)) ?_
    refine zs_rdL rfl want_none rfl (by decide) (fun _ hS => r_fa rfl) ?_
    refine zs_rdL rfl want_none rfl (by decide) (fun _ hS => r_loadB rfl hS (by rfl)) ?_
    refine zs_rdL rfl (by first | exact want_none | exact want_L rfl) rfl (by decide) (fun _ hS => r_build' (cells := #[.int .i64 n, .int .i64 (nodeOf N n).space, .string (nodeOf N n).name]) rfl (by kernel_rfl)) ?_
    refine zs_rdL rfl want_none rfl (by decide) (fun _ hS => r_fa rfl) ?_
    refine zs_rdL rfl want_none rfl (by decide) (fun _ hS => r_loadB rfl hS (by rfl)) ?_
    refine zs_rdL rfl want_none rfl (by decide) (fun _ hS => r_cmpB (r := true) rfl rfl rfl (iff_of_true rfl (by omega))) ?_
    iterate 3 (refine zs_take rfl (zt_pure rfl ?_))
    refine zs_call rfl (by first | exact want_none | exact want_L rfl) rfl (by decide) rfl (sOpened_calls (h4.no hC5) n) ?_
    rintro _ u ⟨rfl, hu⟩
    obtain rfl := hu.symm
    refine ⟨_, rfl, hb4.no hC5, ?_⟩
    have hb5 := hb14.no hC5
    rw [hfb]
    by_cases ho : opn I n
    · rw [decide_eq_true ho, decide_eq_false (show ¬ (kd = 1 ∧ ¬ opn I n) from fun hh => hh.2 ho)]
      iterate 2 (refine zs_take rfl (zt_pure rfl ?_))
      refine zs_store rfl (by first | exact want_none | exact want_L rfl) rfl rfl rfl (by assumption) (by first | exact Nat.le_refl _ | simp [Value.cells]) (by simp [Value.cells, Value.oneCell']) (fun w6 hU6 => ?_)
      have hb6 : Blk w6 b1 74 [.int .i64 n, .int .i64 (nodeOf N n).space, .string (nodeOf N n).name] := hU6.blk
      refine ⟨(hb4.no hC5).chg hU6.chg (fun he => hne he.symm), ?_⟩
      refine zs_take rfl (zt_pure rfl ?_)
      refine zs_fin ?_
      refine zk_seq ?_
      refine zc_ret ?_
      exact zk_retCT (.inr rfl) rfl rfl rfl hb6 rfl ⟨rfl, (hC4.no hC5).upd hU6 hge⟩
    · rw [decide_eq_false ho, decide_eq_true (show (kd = 1 ∧ ¬ opn I n) from ⟨hk1, ho⟩)]
      iterate 2 (refine zs_take rfl (zt_pure rfl ?_))
      refine zs_store rfl (by first | exact want_none | exact want_L rfl) rfl rfl rfl (by assumption) (by first | exact Nat.le_refl _ | simp [Value.cells]) (by simp [Value.cells, Value.oneCell']) (fun w6 hU6 => ?_)
      have hb6 : Blk w6 b1 74 [.int .i64 n, .int .i64 (nodeOf N n).space, .string (nodeOf N n).name] := hU6.blk
      refine ⟨(hb4.no hC5).chg hU6.chg (fun he => hne he.symm), ?_⟩
      refine zs_take rfl (zt_pure rfl ?_)
      refine zs_fin ?_
      refine zk_seq ?_
      refine zc_ret ?_
      exact zk_retCT (.inr rfl) rfl rfl rfl hb6 rfl ⟨rfl, (hC4.no hC5).upd hU6 hge⟩
  · rw [hfb, decide_eq_false (show ¬ (kd = 1 ∧ ¬ opn I n) from fun hh => hk1 hh.1)]
    refine zl_nil ?_
    refine zk_seq ?_
    refine zc_seq ?_
    refine zc_draw [] (fun w' => Blk w' b3 52 [.int .i64 kd, .int .i64 (nodeOf N n).space, .string (nodeOf N n).name, .slice A4 (nodeOf N n).attrs.length c4, .string (bs (nodeOf N n).text), .int .i64 0, .slice none 0 0]) (.take 0 (.take 1 (.take 2 (.take 3 (.take 4 (.take 5 (.take 6 (.take 7 (.take 8 (.take 9 (.take 10 (.take 11 (.all1 12 (.take 13 (.take 14 (.all1 15 (.take 16 (.fin)))))))))))))))))) (by rfl) (by kernel_rfl) (by kernel_rfl) (fun w5 hC5 _ => ⟨?_, ?_⟩)
    · exact hb4.no hC5
    refine zs_take rfl (zt_pure rfl ?_)
    refine zs_rdL rfl want_none rfl (by decide) (fun _ hS => r_fa rfl) ?_
    refine zs_rdL rfl want_none rfl (by decide) (fun _ hS => r_loadB rfl hS (by rfl)) ?_
    refine zs_rdL rfl want_none rfl (by decide) (fun _ hS => r_fa rfl) ?_
    refine zs_rdL rfl want_none rfl (by decide) (fun _ hS => r_loadB rfl hS (by rfl)) ?_
    refine zs_rdL rfl (by first | exact want_none | exact want_L rfl) rfl (by decide) (fun _ hS => r_build' (cells := #[.int .i64 n, .int .i64 (nodeOf N n).space, .string (nodeOf N n).name]) rfl (by kernel_rfl)) ?_
    refine zs_rdL rfl want_none rfl (by decide) (fun _ hS => r_fa rfl) ?_
    refine zs_rdL rfl want_none rfl (by decide) (fun _ hS => r_loadB rfl hS (by rfl)) ?_
    refine zs_rdL rfl want_none rfl (by decide) (fun _ hS => r_cmpB (r := false) rfl rfl rfl (iff_of_false Bool.false_ne_true (by omega))) ?_
    iterate 3 (refine zs_take rfl (zt_pure rfl ?_))
    refine zs_alone rfl (za_skip rfl ?_)
    iterate 2 (refine zs_take rfl (zt_pure rfl ?_))
    have hb5 := hb14.no hC5
    refine zs_store rfl (by first | exact want_none | exact want_L rfl) rfl rfl rfl (by assumption) (by first | exact Nat.le_refl _ | simp [Value.cells]) (by simp [Value.cells, Value.oneCell']) (fun w6 hU6 => ?_)
    have hb6 : Blk w6 b1 74 [.int .i64 n, .int .i64 (nodeOf N n).space, .string (nodeOf N n).name] := hU6.blk
    refine ⟨(hb4.no hC5).chg hU6.chg (fun he => hne he.symm), ?_⟩
    refine zs_take rfl (zt_pure rfl ?_)
    refine zs_fin ?_
    refine zk_seq ?_
    refine zc_ret ?_
    exact zk_retCT (.inr rfl) rfl rfl rfl hb6 rfl ⟨rfl, (hC4.no hC5).upd hU6 hge⟩
end
end Go.Proofs.Yteeibieaapiomaa.D
