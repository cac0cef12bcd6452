import Derived.Test.YtjiehalanklapaaDPlay3
/- A call of both Docs. -/
namespace Go.Proofs.Ytjiehalanklapaa.D
open Go Go.Z Go.Proofs
set_option linter.unusedVariables false
def nmC : List Value := [.string (bs [112]), .string (bs [98]), .string (bs [116, 97, 98, 108, 101]), .string (bs []), .string (bs [97])]
theorem nmC_at : ∀ j, j < 5 → ∃ nm, nmC[j]? = some (.string nm)
  | 0, _ => ⟨_, rfl⟩
  | 1, _ => ⟨_, rfl⟩
  | 2, _ => ⟨_, rfl⟩
  | 3, _ => ⟨_, rfl⟩
  | 4, _ => ⟨_, rfl⟩
  | j + 5, h => by omega
theorem eqb_run (a b : Bool) (w : World) : (binOp .eql 4 (.bool a) (.bool b)).run Try.prog w = .ok (.bool (a == b)) w := by cases a <;> cases b <;> kernel_rfl
theorem eqg_run (x y : Operand) (a b : Bool) (w : World) : (eqGuard .eql 4 x y (.bool a) (.bool b)).run Try.prog w = .ok () w := by unfold eqGuard; rfl
theorem r_eqb {n : Nat} {e : Env} {w : World} {d : Tmp} {ty : TypeId} {pos : String} {aft : Array Edge} {g : Option (Nat × Bool)} {x y : Operand} {a b : Bool} (hx : ev e x = some (.bool a)) (hy : ev e y = some (.bool b)) : Rd Try.prog n e w ⟨some d, .binOp .eql 4 x y 4, ty, pos, aft, g⟩ (.bool (a == b)) := fun A hA => by
  simp only [execOp, hA.ev hx, hA.ev hy, Sem.run_bind, eqg_run, Result.andThen_ok, eqb_run]
  simp [eqb_run]
theorem RdS.new' {W : Nat} {w w' : World} {va : Value} {l : List At} (ha : AttrS w va l) (hk : Keep W w w') : AttrS w' va l := by
  obtain ⟨h1, h2, A, c, h3, h4, h5⟩ := ha
  refine ⟨h1, h2, A, c, h3, h4, fun hm => ?_⟩
  obtain ⟨b, o, cells, h6, h7, h8⟩ := h5 hm
  exact ⟨b, o, cells, h6, hk.blk b 45 cells (.inr (.inl rfl)) h7, h8⟩
set_option maxRecDepth 100000 in
set_option maxHeartbeats 16000000 in
theorem do_calls {w : World} {p p' W : Nat} {N : List ND} (h : BB w p p' W N N) (hWs : W ≤ w.heap.size) (hW : WF N) (hl : N.length ≤ 1000) {m : Nat} (hB : BT m N) (hm : m ≤ 100000000) (K A B C : Int) (s : List UInt8) (hsl : s.length ≤ 50) :
    Calls Try.prog 37 [.pointer (some ⟨p, 0, none⟩), .pointer (some ⟨p', 0, none⟩), .agg #[.int .i64 K, .int .i64 A, .int .i64 B, .int .i64 C, .string (bs s)]].toArray w fun e w' => ∃ N', e = .returned (.bool true) ∧ BB w' p p' W N' N' ∧ WF N' ∧ BT (m + 50) N' ∧ N'.length ≤ N.length + 1 ∧ Keep W w w' := by
  have hBt : ∀ i, (N.getD i n0).text.length ≤ 1000000000 := fun i => by have := (hB i).1; omega
  refine calls_zc (n := 115) (f := 37) (fn := Try.f37) Try.func37 rfl rfl (by simp) ?_
  refine zc_seq ?_
  refine zc_region ?_
  refine z_box (by first | exact want_none | exact want_L rfl) (by decide) rfl (fun w1 b1 hN1 => ?_)
  have hb1 : Blk w1 b1 59 [.int .i64 K, .int .i64 A, .int .i64 B, .int .i64 C, .string (bs s)] := hN1.blk
  refine zl_pureL rfl ?_
  refine zl_nil ?_
  refine zk_seq ?_
  refine zc_seq ?_
  refine zc_region ?_
  refine z_bsE nmC (by first | exact want_none | exact want_L rfl) (by decide) rfl (by decide) (by decide) (by kernel_rfl) (fun w2 b2 hN2 => ?_)
  have hb12 := hb1.no hN2.chg
  have hb2 : Blk w2 b2 9 nmC := hN2.blk
  refine z_fa want_none (by decide) rfl ?_
  refine z_loadB want_none (by decide) rfl (by assumption) (by rfl) ?_
  refine zl_call (by first | exact want_none | exact want_L rfl) rfl (by decide) rfl (within_calls (a := C) (n := 5) (by decide) (by decide)) ?_
  rintro _ u ⟨rfl, hu⟩
  obtain rfl := hu.symm
  refine ⟨_, rfl, ?_⟩
  obtain ⟨j, hj⟩ := Int.eq_ofNat_of_zero_le (Int.emod_nonneg C (show ((5 : Nat) : Int) ≠ 0 by decide))
  have hj5 : j < 5 := by have := Int.emod_lt_of_pos C (show (0 : Int) < ((5 : Nat) : Int) by decide); omega
  obtain ⟨nm, hnm⟩ := nmC_at j hj5
  have hcn : w2.cell? ⟨b2, 0 + j, none⟩ = some (.string nm) := by rw [Nat.zero_add]; exact (hb2.cell j).trans hnm
  rw [hj]
  refine z_ia want_none (by decide) rfl rfl (by omega) (by omega) ?_
  refine z_load1 (by first | exact want_none | exact want_L rfl) (by decide) rfl (cell_at hcn (by omega)) ?_
  refine zl_pureL rfl ?_
  refine zl_nil ?_
  refine zk_seq ?_
  iterate 2 (refine zc_seq ?_)
  refine zc_region ?_
  refine z_fa want_none (by decide) rfl ?_
  refine z_loadB want_none (by decide) rfl (by assumption) (by rfl) ?_
  refine zl_call (by first | exact want_none | exact want_L rfl) rfl (by decide) rfl (within_calls (a := K) (n := 8) (by decide) (by decide)) ?_
  rintro _ u ⟨rfl, hu⟩
  obtain rfl := hu.symm
  refine ⟨_, rfl, ?_⟩
  obtain ⟨kk, hkk⟩ := Int.eq_ofNat_of_zero_le (Int.emod_nonneg K (show ((8 : Nat) : Int) ≠ 0 by decide))
  have hkk8 : kk < 8 := by have := Int.emod_lt_of_pos K (show (0 : Int) < ((8 : Nat) : Int) by decide); omega
  rw [hkk]
  have hC2 : Chg w w2 No := hN1.chg.no hN2.chg
  have h2 := h.no hC2
  have hs2 := hC2.size
  have hk2 : Keep W w w2 := Keep.no hC2
  by_cases hq0 : kk = 0
  · subst hq0
    refine zl_nil ?_
    refine zk_seq ?_
    refine zc_block ?_
    refine zc_seq ?_
    refine zc_region ?_
    refine z_cmpB (r := true) want_none (by decide) rfl rfl rfl (iff_of_true rfl (by omega)) ?_
    refine zl_pureL rfl ?_
    refine zl_nil ?_
    refine zk_seq ?_
    refine zc_true rfl ?_
    refine zc_seq ?_
    refine zc_region ?_
    refine z_fa want_none (by decide) rfl ?_
    refine z_loadB want_none (by decide) rfl (by assumption) (by rfl) ?_
    refine z_buildE #[.string (bs [120]), .string (bs s)] (by first | exact want_none | exact want_L rfl) (by decide) rfl (by kernel_rfl) ?_
    refine z_bsE (encA [(bs [120], bs s)]) (by first | exact want_none | exact want_L rfl) (by decide) rfl (by decide) (by decide) (by kernel_rfl) (fun w2b b3 hN3 => ?_)
    have hA3 : AttrS w2b (.slice (some ⟨b3, 0, none⟩) 1 1) [(bs [120], bs s)] := RdS.new hN3 rfl (encA_one _)
    have hb12b := hb12.no hN3.chg
    have h2b := h2.no hN3.chg
    have hs2b := hN3.chg.size
    refine zl_pureL rfl ?_
    refine zl_nil ?_
    refine zk_seq ?_
    refine zc_seq ?_
    refine zc_draw [] (fun w' => Blk w' b1 59 [.int .i64 K, .int .i64 A, .int .i64 B, .int .i64 C, .string (bs s)]) (.take 0 (.take 1 (.take 2 (.take 5 (.take 6 (.take 8 (.take 9 (.take 10 (.take 13 (.take 14 (.all1 3 (.take 4 (.all1 7 (.all1 11 (.take 12 (.all1 15 (.take 16 (.take 17 (.fin))))))))))))))))))) (by rfl) (by kernel_rfl) (by kernel_rfl) (fun w3 hC3 _ => ⟨?_, ?_⟩)
    · exact hb12b.no hC3
    have h3 := h2b.no hC3
    have hs3 := hC3.size
    have hA4 := hA3.no hC3
    have hb13 := hb12b.no hC3
    refine zs_take rfl (zt_pure rfl ?_)
    refine zs_rdL rfl want_none rfl (by decide) (fun _ hS => r_fa rfl) ?_
    refine zs_rdL rfl want_none rfl (by decide) (fun _ hS => r_loadB rfl hS (by rfl)) ?_
    iterate 3 (refine zs_take rfl (zt_pure rfl ?_))
    refine zs_rdL rfl want_none rfl (by decide) (fun _ hS => r_fa rfl) ?_
    refine zs_rdL rfl want_none rfl (by decide) (fun _ hS => r_loadB rfl hS (by rfl)) ?_
    iterate 2 (refine zs_take rfl (zt_pure rfl ?_))
    refine zs_call rfl (by first | exact want_none | exact want_L rfl) rfl (by decide) rfl (within_calls (a := A) (n := 3) (by decide) (by decide)) ?_
    rintro _ u ⟨rfl, hu⟩
    obtain rfl := hu.symm
    refine ⟨_, rfl, hb13, ?_⟩
    have hm0 := Int.emod_nonneg A (show ((3 : Nat) : Int) ≠ 0 by decide)
    have hm1 := Int.emod_lt_of_pos A (show (0 : Int) < ((3 : Nat) : Int) by decide)
    obtain ⟨sp, hsp⟩ : ∃ sp : Int, sp = A % ((3 : Nat) : Int) := ⟨_, rfl⟩
    rw [← hsp] at hm0 hm1 ⊢
    refine zs_rdL rfl want_none rfl (by decide) (fun _ hS => r_add rfl rfl (by omega) (by omega)) ?_
    refine zs_call rfl (by first | exact want_none | exact want_L rfl) rfl (by decide) rfl (bElem h3 (by omega) (by omega) (1 + sp) nm hA4 (by simp)) ?_
    rintro _ w4 ⟨rfl, h4, hK4⟩
    have hs4 := hK4.chg.size
    have hb14 := hK4.blk _ _ _ (.inl rfl) hb13
    have hA5 : AttrS w4 (.slice (some ⟨b3, 0, none⟩) 1 1) [(bs [120], bs s)] := RdS.new' hA4 hK4
    refine ⟨_, rfl, hb14, ?_⟩
    skip
    refine zs_call rfl (by first | exact want_none | exact want_L rfl) rfl (by decide) rfl (within_calls (a := A) (n := 3) (by decide) (by decide)) ?_
    rintro _ u ⟨rfl, hu⟩
    obtain rfl := hu.symm
    refine ⟨_, rfl, hb14, ?_⟩
    rw [← hsp]
    refine zs_rdL rfl want_none rfl (by decide) (fun _ hS => r_add rfl rfl (by omega) (by omega)) ?_
    refine zs_call rfl (by first | exact want_none | exact want_L rfl) rfl (by decide) rfl (bElemR h4 (by omega) (by omega) (1 + sp) nm hA5 (by simp)) ?_
    rintro _ w5 ⟨rfl, h5, hK5⟩
    refine ⟨_, rfl, hK5.blk _ _ _ (.inl rfl) hb14, ?_⟩
    refine zs_rdL rfl want_none rfl (by decide) (fun _ hS => r_cmpB (r := true) rfl rfl rfl (iff_of_true rfl (by omega))) ?_
    refine zs_take rfl (zt_pure rfl ?_)
    refine zs_fin ?_
    refine zk_seq ?_
    refine zc_ret ?_
    refine zk_ret_block ?_
    refine zk_ret_then ?_
    exact zk_ret1 (.inr rfl) rfl rfl ⟨_, rfl, h5, hW.add rfl rfl, (hB.mono (by omega)).snoc (by simp) (by simp), by simp, (((hk2.trans (Keep.no hN3.chg)).trans (Keep.no hC3)).trans hK4).trans hK5⟩
  by_cases hq1 : kk = 1
  · subst hq1
    refine zl_nil ?_
    refine zk_seq ?_
    refine zc_block ?_
    refine zc_seq ?_
    refine zc_region ?_
    refine z_cmpB (r := false) want_none (by decide) rfl rfl rfl (iff_of_false Bool.false_ne_true (by omega)) ?_
    refine zl_pureL rfl ?_
    refine zl_nil ?_
    refine zk_seq ?_
    refine zc_false rfl ?_
    refine zc_seq ?_
    refine zc_region ?_
    refine z_cmpB (r := true) want_none (by decide) rfl rfl rfl (iff_of_true rfl (by omega)) ?_
    refine zl_pureL rfl ?_
    refine zl_nil ?_
    refine zk_seq ?_
    refine zc_true rfl ?_
    refine zc_seq ?_
    refine zc_draw [] (fun w' => Blk w' b1 59 [.int .i64 K, .int .i64 A, .int .i64 B, .int .i64 C, .string (bs s)]) (.take 0 (.take 1 (.take 2 (.take 4 (.take 5 (.take 6 (.all1 3 (.all1 7 (.take 8 (.take 9 (.fin))))))))))) (by rfl) (by kernel_rfl) (by kernel_rfl) (fun w3 hC3 _ => ⟨?_, ?_⟩)
    · exact hb12.no hC3
    have h3 := h2.no hC3
    have hs3 := hC3.size
    refine zs_take rfl (zt_pure rfl ?_)
    refine zs_rdL rfl want_none rfl (by decide) (fun _ hS => r_fa rfl) ?_
    refine zs_rdL rfl want_none rfl (by decide) (fun _ hS => r_loadB rfl hS (by rfl)) ?_
    refine zs_take rfl (zt_pure rfl ?_)
    refine zs_rdL rfl want_none rfl (by decide) (fun _ hS => r_fa rfl) ?_
    refine zs_rdL rfl want_none rfl (by decide) (fun _ hS => r_loadB rfl hS (by rfl)) ?_
    refine zs_call rfl (by first | exact want_none | exact want_L rfl) rfl (by decide) rfl (bNote h3 (by omega) (by omega) s (by omega)) ?_
    rintro _ w4 ⟨rfl, h4, hK4⟩
    have hs4 := hK4.chg.size
    refine ⟨_, rfl, hK4.blk _ _ _ (.inl rfl) (hb12.no hC3), ?_⟩
    skip
    refine zs_call rfl (by first | exact want_none | exact want_L rfl) rfl (by decide) rfl (bNoteR h4 (by omega) (by omega) s) ?_
    rintro _ w5 ⟨rfl, h5, hK5⟩
    refine ⟨_, rfl, hK5.blk _ _ _ (.inl rfl) (hK4.blk _ _ _ (.inl rfl) (hb12.no hC3)), ?_⟩
    refine zs_rdL rfl want_none rfl (by decide) (fun _ hS => r_cmpB (r := true) rfl rfl rfl (iff_of_true rfl (by omega))) ?_
    refine zs_take rfl (zt_pure rfl ?_)
    refine zs_fin ?_
    refine zk_seq ?_
    refine zc_ret ?_
    refine zk_ret_block ?_
    refine zk_ret_then ?_
    exact zk_ret1 (.inr rfl) rfl rfl ⟨_, rfl, h5, hW.add rfl rfl, (hB.mono (by omega)).snoc (by simp; omega) (by simp), by simp, ((hk2.trans (Keep.no hC3)).trans hK4).trans hK5⟩
  by_cases hq4 : kk = 4
  · subst hq4
    refine zl_nil ?_
    refine zk_seq ?_
    refine zc_block ?_
    refine zc_seq ?_
    refine zc_region ?_
    refine z_cmpB (r := false) want_none (by decide) rfl rfl rfl (iff_of_false Bool.false_ne_true (by omega)) ?_
    refine zl_pureL rfl ?_
    refine zl_nil ?_
    refine zk_seq ?_
    refine zc_false rfl ?_
    refine zc_seq ?_
    refine zc_region ?_
    refine z_cmpB (r := false) want_none (by decide) rfl rfl rfl (iff_of_false Bool.false_ne_true (by omega)) ?_
    refine zl_pureL rfl ?_
    refine zl_nil ?_
    refine zk_seq ?_
    refine zc_false rfl ?_
    refine zc_seq ?_
    refine zc_region ?_
    refine z_cmpB (r := true) want_none (by decide) rfl rfl rfl (iff_of_true rfl (by omega)) ?_
    refine zl_pureL rfl ?_
    refine zl_nil ?_
    refine zk_seq ?_
    refine zc_true rfl ?_
    refine zc_seq ?_
    refine zc_draw [] (fun w' => Blk w' b1 59 [.int .i64 K, .int .i64 A, .int .i64 B, .int .i64 C, .string (bs s)]) (.take 0 (.take 1 (.take 2 (.take 4 (.take 5 (.take 6 (.all1 3 (.all1 7 (.take 8 (.take 9 (.fin))))))))))) (by rfl) (by kernel_rfl) (by kernel_rfl) (fun w3 hC3 _ => ⟨?_, ?_⟩)
    · exact hb12.no hC3
    have h3 := h2.no hC3
    have hs3 := hC3.size
    refine zs_take rfl (zt_pure rfl ?_)
    refine zs_rdL rfl want_none rfl (by decide) (fun _ hS => r_fa rfl) ?_
    refine zs_rdL rfl want_none rfl (by decide) (fun _ hS => r_loadB rfl hS (by rfl)) ?_
    refine zs_take rfl (zt_pure rfl ?_)
    refine zs_rdL rfl want_none rfl (by decide) (fun _ hS => r_fa rfl) ?_
    refine zs_rdL rfl want_none rfl (by decide) (fun _ hS => r_loadB rfl hS (by rfl)) ?_
    refine zs_call rfl (by first | exact want_none | exact want_L rfl) rfl (by decide) rfl (bTake h3 (by omega) hW (by omega) A) ?_
    rintro _ w4 ⟨q4, N4, rfl, hR4, h4, hK4⟩
    have hs4 := hK4.chg.size
    refine ⟨_, rfl, hK4.blk _ _ _ (.inl rfl) (hb12.no hC3), ?_⟩
    skip
    refine zs_call rfl (by first | exact want_none | exact want_L rfl) rfl (by decide) rfl (bTakeR h4 (by omega) hW (by omega) A) ?_
    rintro _ w5 ⟨q5, N5, rfl, hR5, h5, hK5⟩
    obtain ⟨rfl, rfl⟩ := hR4.det hR5
    refine ⟨_, rfl, hK5.blk _ _ _ (.inl rfl) (hK4.blk _ _ _ (.inl rfl) (hb12.no hC3)), ?_⟩
    have hwf := hR4.wf hW
    have hres : ∃ N', Ending.returned (Value.bool true) = .returned (.bool true) ∧ BB w5 p p' W N' N' ∧ WF N' ∧ BT (m + 50) N' ∧ N'.length ≤ N.length + 1 ∧ Keep W w w5 := ⟨N4, rfl, h5, hwf.1, (hR4.bt hB).mono (by omega), by have := hwf.2; omega, ((hk2.trans (Keep.no hC3)).trans hK4).trans hK5⟩
    skip
    refine zs_rdL rfl (by first | exact want_none | exact want_L rfl) rfl (by decide) (fun _ hS => r_eqb rfl rfl) ?_
    rw [beq_self_eq_true]
    refine zs_take rfl (zt_pure rfl ?_)
    refine zs_fin ?_
    refine zk_seq ?_
    refine zc_ret ?_
    refine zk_ret_block ?_
    refine zk_ret_then ?_
    exact zk_ret1 (.inr rfl) rfl rfl hres
  by_cases hq5 : kk = 5
  · subst hq5
    refine zl_nil ?_
    refine zk_seq ?_
    refine zc_block ?_
    refine zc_seq ?_
    refine zc_region ?_
    refine z_cmpB (r := false) want_none (by decide) rfl rfl rfl (iff_of_false Bool.false_ne_true (by omega)) ?_
    refine zl_pureL rfl ?_
    refine zl_nil ?_
    refine zk_seq ?_
    refine zc_false rfl ?_
    refine zc_seq ?_
    refine zc_region ?_
    refine z_cmpB (r := false) want_none (by decide) rfl rfl rfl (iff_of_false Bool.false_ne_true (by omega)) ?_
    refine zl_pureL rfl ?_
    refine zl_nil ?_
    refine zk_seq ?_
    refine zc_false rfl ?_
    refine zc_seq ?_
    refine zc_region ?_
    refine z_cmpB (r := false) want_none (by decide) rfl rfl rfl (iff_of_false Bool.false_ne_true (by omega)) ?_
    refine zl_pureL rfl ?_
    refine zl_nil ?_
    refine zk_seq ?_
    refine zc_false rfl ?_
    refine zc_seq ?_
    refine zc_region ?_
    refine z_cmpB (r := true) want_none (by decide) rfl rfl rfl (iff_of_true rfl (by omega)) ?_
    refine zl_pureL rfl ?_
    refine zl_nil ?_
    refine zk_seq ?_
    refine zc_true rfl ?_
    refine zc_seq ?_
    refine zc_draw [] (fun w' => Blk w' b1 59 [.int .i64 K, .int .i64 A, .int .i64 B, .int .i64 C, .string (bs s)]) (.take 0 (.take 1 (.take 2 (.take 3 (.take 4 (.take 6 (.take 7 (.take 8 (.take 9 (.take 10 (.all1 5 (.all1 11 (.take 12 (.take 13 (.fin))))))))))))))) (by rfl) (by kernel_rfl) (by kernel_rfl) (fun w3 hC3 _ => ⟨?_, ?_⟩)
    · exact hb12.no hC3
    have h3 := h2.no hC3
    have hs3 := hC3.size
    refine zs_take rfl (zt_pure rfl ?_)
    refine zs_rdL rfl want_none rfl (by decide) (fun _ hS => r_fa rfl) ?_
    refine zs_rdL rfl want_none rfl (by decide) (fun _ hS => r_loadB rfl hS (by rfl)) ?_
    refine zs_rdL rfl want_none rfl (by decide) (fun _ hS => r_fa rfl) ?_
    refine zs_rdL rfl want_none rfl (by decide) (fun _ hS => r_loadB rfl hS (by rfl)) ?_
    refine zs_take rfl (zt_pure rfl ?_)
    refine zs_rdL rfl want_none rfl (by decide) (fun _ hS => r_fa rfl) ?_
    refine zs_rdL rfl want_none rfl (by decide) (fun _ hS => r_loadB rfl hS (by rfl)) ?_
    refine zs_rdL rfl want_none rfl (by decide) (fun _ hS => r_fa rfl) ?_
    refine zs_rdL rfl want_none rfl (by decide) (fun _ hS => r_loadB rfl hS (by rfl)) ?_
    refine zs_call rfl (by first | exact want_none | exact want_L rfl) rfl (by decide) rfl (bMove h3 (by omega) hW (by omega) A B) ?_
    rintro _ w4 ⟨q4, N4, rfl, hR4, h4, hK4⟩
    have hs4 := hK4.chg.size
    refine ⟨_, rfl, hK4.blk _ _ _ (.inl rfl) (hb12.no hC3), ?_⟩
    skip
    refine zs_call rfl (by first | exact want_none | exact want_L rfl) rfl (by decide) rfl (bMoveR h4 (by omega) hW (by omega) A B) ?_
    rintro _ w5 ⟨q5, N5, rfl, hR5, h5, hK5⟩
    obtain ⟨rfl, rfl⟩ := hR4.det hR5
    refine ⟨_, rfl, hK5.blk _ _ _ (.inl rfl) (hK4.blk _ _ _ (.inl rfl) (hb12.no hC3)), ?_⟩
    have hwf := hR4.wf hW
    have hres : ∃ N', Ending.returned (Value.bool true) = .returned (.bool true) ∧ BB w5 p p' W N' N' ∧ WF N' ∧ BT (m + 50) N' ∧ N'.length ≤ N.length + 1 ∧ Keep W w w5 := ⟨N4, rfl, h5, hwf.1, (hR4.bt hB).mono (by omega), by have := hwf.2; omega, ((hk2.trans (Keep.no hC3)).trans hK4).trans hK5⟩
    skip
    refine zs_rdL rfl (by first | exact want_none | exact want_L rfl) rfl (by decide) (fun _ hS => r_eqb rfl rfl) ?_
    rw [beq_self_eq_true]
    refine zs_take rfl (zt_pure rfl ?_)
    refine zs_fin ?_
    refine zk_seq ?_
    refine zc_ret ?_
    refine zk_ret_block ?_
    refine zk_ret_then ?_
    exact zk_ret1 (.inr rfl) rfl rfl hres
  by_cases hq3 : kk = 3
  · subst hq3
    refine zl_nil ?_
    refine zk_seq ?_
    refine zc_block ?_
    refine zc_seq ?_
    refine zc_region ?_
    refine z_cmpB (r := false) want_none (by decide) rfl rfl rfl (iff_of_false Bool.false_ne_true (by omega)) ?_
    refine zl_pureL rfl ?_
    refine zl_nil ?_
    refine zk_seq ?_
    refine zc_false rfl ?_
    refine zc_seq ?_
    refine zc_region ?_
    refine z_cmpB (r := false) want_none (by decide) rfl rfl rfl (iff_of_false Bool.false_ne_true (by omega)) ?_
    refine zl_pureL rfl ?_
    refine zl_nil ?_
    refine zk_seq ?_
    refine zc_false rfl ?_
    refine zc_seq ?_
    refine zc_region ?_
    refine z_cmpB (r := false) want_none (by decide) rfl rfl rfl (iff_of_false Bool.false_ne_true (by omega)) ?_
    refine zl_pureL rfl ?_
    refine zl_nil ?_
    refine zk_seq ?_
    refine zc_false rfl ?_
    refine zc_seq ?_
    refine zc_region ?_
    refine z_cmpB (r := false) want_none (by decide) rfl rfl rfl (iff_of_false Bool.false_ne_true (by omega)) ?_
    refine zl_pureL rfl ?_
    refine zl_nil ?_
    refine zk_seq ?_
    refine zc_false rfl ?_
    iterate 2 (refine zc_seq ?_)
    refine zc_region ?_
    refine z_cmpB (r := true) want_none (by decide) rfl rfl rfl (iff_of_true rfl (by omega)) ?_
    refine zl_pureL rfl ?_
    refine zl_nil ?_
    refine zk_seq ?_
    refine zc_true rfl ?_
    refine zc_skip ?_
    refine zk_seq ?_
    refine zc_true rfl ?_
    refine zc_seq ?_
    refine zc_draw [] (fun w' => Blk w' b1 59 [.int .i64 K, .int .i64 A, .int .i64 B, .int .i64 C, .string (bs s)]) (.take 0 (.take 1 (.take 2 (.take 3 (.take 4 (.take 5 (.take 6 (.take 8 (.take 9 (.take 10 (.take 11 (.take 12 (.take 13 (.take 14 (.all1 7 (.all1 15 (.take 16 (.take 17 (.fin))))))))))))))))))) (by rfl) (by kernel_rfl) (by kernel_rfl) (fun w3 hC3 _ => ⟨?_, ?_⟩)
    · exact hb12.no hC3
    have h3 := h2.no hC3
    have hs3 := hC3.size
    refine zs_take rfl (zt_pure rfl ?_)
    refine zs_rdL rfl want_none rfl (by decide) (fun _ hS => r_fa rfl) ?_
    refine zs_rdL rfl want_none rfl (by decide) (fun _ hS => r_loadB rfl hS (by rfl)) ?_
    refine zs_rdL rfl want_none rfl (by decide) (fun _ hS => r_fa rfl) ?_
    refine zs_rdL rfl want_none rfl (by decide) (fun _ hS => r_loadB rfl hS (by rfl)) ?_
    refine zs_rdL rfl want_none rfl (by decide) (fun _ hS => r_fa rfl) ?_
    refine zs_rdL rfl want_none rfl (by decide) (fun _ hS => r_loadB rfl hS (by rfl)) ?_
    refine zs_take rfl (zt_pure rfl ?_)
    refine zs_rdL rfl want_none rfl (by decide) (fun _ hS => r_fa rfl) ?_
    refine zs_rdL rfl want_none rfl (by decide) (fun _ hS => r_loadB rfl hS (by rfl)) ?_
    refine zs_rdL rfl want_none rfl (by decide) (fun _ hS => r_fa rfl) ?_
    refine zs_rdL rfl want_none rfl (by decide) (fun _ hS => r_loadB rfl hS (by rfl)) ?_
    refine zs_rdL rfl want_none rfl (by decide) (fun _ hS => r_fa rfl) ?_
    refine zs_rdL rfl want_none rfl (by decide) (fun _ hS => r_loadB rfl hS (by rfl)) ?_
    refine zs_call rfl (by first | exact want_none | exact want_L rfl) rfl (by decide) rfl (bWrite h3 (by omega) hW (by omega) s (by omega) hBt A B) ?_
    rintro _ w4 ⟨q4, N4, rfl, hR4, h4, hK4⟩
    have hs4 := hK4.chg.size
    refine ⟨_, rfl, hK4.blk _ _ _ (.inl rfl) (hb12.no hC3), ?_⟩
    skip
    refine zs_call rfl (by first | exact want_none | exact want_L rfl) rfl (by decide) rfl (bWriteR h4 (by omega) hW (by omega) s (by omega) hBt A B) ?_
    rintro _ w5 ⟨q5, N5, rfl, hR5, h5, hK5⟩
    obtain ⟨rfl, rfl⟩ := hR4.det hR5
    refine ⟨_, rfl, hK5.blk _ _ _ (.inl rfl) (hK4.blk _ _ _ (.inl rfl) (hb12.no hC3)), ?_⟩
    have hwf := hR4.wf hW
    have hres : ∃ N', Ending.returned (Value.bool true) = .returned (.bool true) ∧ BB w5 p p' W N' N' ∧ WF N' ∧ BT (m + 50) N' ∧ N'.length ≤ N.length + 1 ∧ Keep W w w5 := ⟨N4, rfl, h5, hwf.1, (hR4.bt hB).mono (by omega), by have := hwf.2; omega, ((hk2.trans (Keep.no hC3)).trans hK4).trans hK5⟩
    skip
    refine zs_rdL rfl (by first | exact want_none | exact want_L rfl) rfl (by decide) (fun _ hS => r_eqb rfl rfl) ?_
    rw [beq_self_eq_true]
    refine zs_take rfl (zt_pure rfl ?_)
    refine zs_fin ?_
    refine zk_seq ?_
    refine zc_ret ?_
    refine zk_ret_block ?_
    refine zk_ret_then ?_
    exact zk_ret1 (.inr rfl) rfl rfl hres
  by_cases hq6 : kk = 6
  · subst hq6
    refine zl_nil ?_
    refine zk_seq ?_
    refine zc_block ?_
    refine zc_seq ?_
    refine zc_region ?_
    refine z_cmpB (r := false) want_none (by decide) rfl rfl rfl (iff_of_false Bool.false_ne_true (by omega)) ?_
    refine zl_pureL rfl ?_
    refine zl_nil ?_
    refine zk_seq ?_
    refine zc_false rfl ?_
    refine zc_seq ?_
    refine zc_region ?_
    refine z_cmpB (r := false) want_none (by decide) rfl rfl rfl (iff_of_false Bool.false_ne_true (by omega)) ?_
    refine zl_pureL rfl ?_
    refine zl_nil ?_
    refine zk_seq ?_
    refine zc_false rfl ?_
    refine zc_seq ?_
    refine zc_region ?_
    refine z_cmpB (r := false) want_none (by decide) rfl rfl rfl (iff_of_false Bool.false_ne_true (by omega)) ?_
    refine zl_pureL rfl ?_
    refine zl_nil ?_
    refine zk_seq ?_
    refine zc_false rfl ?_
    refine zc_seq ?_
    refine zc_region ?_
    refine z_cmpB (r := false) want_none (by decide) rfl rfl rfl (iff_of_false Bool.false_ne_true (by omega)) ?_
    refine zl_pureL rfl ?_
    refine zl_nil ?_
    refine zk_seq ?_
    refine zc_false rfl ?_
    iterate 2 (refine zc_seq ?_)
    refine zc_region ?_
    refine z_cmpB (r := false) want_none (by decide) rfl rfl rfl (iff_of_false Bool.false_ne_true (by omega)) ?_
    refine zl_pureL rfl ?_
    refine zl_nil ?_
    refine zk_seq ?_
    refine zc_false rfl ?_
    refine zc_region ?_
    refine z_cmpB (r := true) want_none (by decide) rfl rfl rfl (iff_of_true rfl (by omega)) ?_
    refine zl_pureL rfl ?_
    refine zl_nil ?_
    refine zk_seq ?_
    refine zc_true rfl ?_
    refine zc_seq ?_
    refine zc_draw [] (fun w' => Blk w' b1 59 [.int .i64 K, .int .i64 A, .int .i64 B, .int .i64 C, .string (bs s)]) (.take 0 (.take 1 (.take 2 (.take 3 (.take 4 (.take 5 (.take 6 (.take 8 (.take 9 (.take 10 (.take 11 (.take 12 (.take 13 (.take 14 (.all1 7 (.all1 15 (.take 16 (.take 17 (.fin))))))))))))))))))) (by rfl) (by kernel_rfl) (by kernel_rfl) (fun w3 hC3 _ => ⟨?_, ?_⟩)
    · exact hb12.no hC3
    have h3 := h2.no hC3
    have hs3 := hC3.size
    refine zs_take rfl (zt_pure rfl ?_)
    refine zs_rdL rfl want_none rfl (by decide) (fun _ hS => r_fa rfl) ?_
    refine zs_rdL rfl want_none rfl (by decide) (fun _ hS => r_loadB rfl hS (by rfl)) ?_
    refine zs_rdL rfl want_none rfl (by decide) (fun _ hS => r_fa rfl) ?_
    refine zs_rdL rfl want_none rfl (by decide) (fun _ hS => r_loadB rfl hS (by rfl)) ?_
    refine zs_rdL rfl want_none rfl (by decide) (fun _ hS => r_fa rfl) ?_
    refine zs_rdL rfl want_none rfl (by decide) (fun _ hS => r_loadB rfl hS (by rfl)) ?_
    refine zs_take rfl (zt_pure rfl ?_)
    refine zs_rdL rfl want_none rfl (by decide) (fun _ hS => r_fa rfl) ?_
    refine zs_rdL rfl want_none rfl (by decide) (fun _ hS => r_loadB rfl hS (by rfl)) ?_
    refine zs_rdL rfl want_none rfl (by decide) (fun _ hS => r_fa rfl) ?_
    refine zs_rdL rfl want_none rfl (by decide) (fun _ hS => r_loadB rfl hS (by rfl)) ?_
    refine zs_rdL rfl want_none rfl (by decide) (fun _ hS => r_fa rfl) ?_
    refine zs_rdL rfl want_none rfl (by decide) (fun _ hS => r_loadB rfl hS (by rfl)) ?_
    refine zs_call rfl (by first | exact want_none | exact want_L rfl) rfl (by decide) rfl (bWrite h3 (by omega) hW (by omega) s (by omega) hBt A B) ?_
    rintro _ w4 ⟨q4, N4, rfl, hR4, h4, hK4⟩
    have hs4 := hK4.chg.size
    refine ⟨_, rfl, hK4.blk _ _ _ (.inl rfl) (hb12.no hC3), ?_⟩
    skip
    refine zs_call rfl (by first | exact want_none | exact want_L rfl) rfl (by decide) rfl (bWriteR h4 (by omega) hW (by omega) s (by omega) hBt A B) ?_
    rintro _ w5 ⟨q5, N5, rfl, hR5, h5, hK5⟩
    obtain ⟨rfl, rfl⟩ := hR4.det hR5
    refine ⟨_, rfl, hK5.blk _ _ _ (.inl rfl) (hK4.blk _ _ _ (.inl rfl) (hb12.no hC3)), ?_⟩
    have hwf := hR4.wf hW
    have hres : ∃ N', Ending.returned (Value.bool true) = .returned (.bool true) ∧ BB w5 p p' W N' N' ∧ WF N' ∧ BT (m + 50) N' ∧ N'.length ≤ N.length + 1 ∧ Keep W w w5 := ⟨N4, rfl, h5, hwf.1, (hR4.bt hB).mono (by omega), by have := hwf.2; omega, ((hk2.trans (Keep.no hC3)).trans hK4).trans hK5⟩
    skip
    refine zs_rdL rfl (by first | exact want_none | exact want_L rfl) rfl (by decide) (fun _ hS => r_eqb rfl rfl) ?_
    rw [beq_self_eq_true]
    refine zs_take rfl (zt_pure rfl ?_)
    refine zs_fin ?_
    refine zk_seq ?_
    refine zc_ret ?_
    refine zk_ret_block ?_
    refine zk_ret_then ?_
    exact zk_ret1 (.inr rfl) rfl rfl hres
  refine zl_nil ?_
  refine zk_seq ?_
  refine zc_block ?_
  refine zc_seq ?_
  refine zc_region ?_
  refine z_cmpB (r := false) want_none (by decide) rfl rfl rfl (iff_of_false Bool.false_ne_true (by omega)) ?_
  refine zl_pureL rfl ?_
  refine zl_nil ?_
  refine zk_seq ?_
  refine zc_false rfl ?_
  refine zc_seq ?_
  refine zc_region ?_
  refine z_cmpB (r := false) want_none (by decide) rfl rfl rfl (iff_of_false Bool.false_ne_true (by omega)) ?_
  refine zl_pureL rfl ?_
  refine zl_nil ?_
  refine zk_seq ?_
  refine zc_false rfl ?_
  refine zc_seq ?_
  refine zc_region ?_
  refine z_cmpB (r := false) want_none (by decide) rfl rfl rfl (iff_of_false Bool.false_ne_true (by omega)) ?_
  refine zl_pureL rfl ?_
  refine zl_nil ?_
  refine zk_seq ?_
  refine zc_false rfl ?_
  refine zc_seq ?_
  refine zc_region ?_
  refine z_cmpB (r := false) want_none (by decide) rfl rfl rfl (iff_of_false Bool.false_ne_true (by omega)) ?_
  refine zl_pureL rfl ?_
  refine zl_nil ?_
  refine zk_seq ?_
  refine zc_false rfl ?_
  iterate 2 (refine zc_seq ?_)
  refine zc_region ?_
  refine z_cmpB (r := false) want_none (by decide) rfl rfl rfl (iff_of_false Bool.false_ne_true (by omega)) ?_
  refine zl_pureL rfl ?_
  refine zl_nil ?_
  refine zk_seq ?_
  refine zc_false rfl ?_
  refine zc_region ?_
  refine z_cmpB (r := false) want_none (by decide) rfl rfl rfl (iff_of_false Bool.false_ne_true (by omega)) ?_
  refine zl_pureL rfl ?_
  refine zl_nil ?_
  refine zk_seq ?_
  refine zc_false rfl ?_
  refine zc_skip ?_
  refine zk_norm_block ?_
  refine zk_seq ?_
  refine zc_seq ?_
  refine zc_draw [] (fun w' => Blk w' b1 59 [.int .i64 K, .int .i64 A, .int .i64 B, .int .i64 C, .string (bs s)]) (.take 0 (.take 1 (.take 2 (.take 3 (.take 4 (.take 5 (.take 6 (.take 8 (.take 9 (.take 10 (.take 11 (.take 12 (.take 13 (.take 14 (.all1 7 (.all1 15 (.take 16 (.take 17 (.fin))))))))))))))))))) (by rfl) (by kernel_rfl) (by kernel_rfl) (fun w3 hC3 _ => ⟨?_, ?_⟩)
  · exact hb12.no hC3
  have h3 := h2.no hC3
  have hs3 := hC3.size
  refine zs_take rfl (zt_pure rfl ?_)
  refine zs_rdL rfl want_none rfl (by decide) (fun _ hS => r_fa rfl) ?_
  refine zs_rdL rfl want_none rfl (by decide) (fun _ hS => r_loadB rfl hS (by rfl)) ?_
  refine zs_rdL rfl want_none rfl (by decide) (fun _ hS => r_fa rfl) ?_
  refine zs_rdL rfl want_none rfl (by decide) (fun _ hS => r_loadB rfl hS (by rfl)) ?_
  refine zs_rdL rfl want_none rfl (by decide) (fun _ hS => r_fa rfl) ?_
  refine zs_rdL rfl want_none rfl (by decide) (fun _ hS => r_loadB rfl hS (by rfl)) ?_
  refine zs_take rfl (zt_pure rfl ?_)
  refine zs_rdL rfl want_none rfl (by decide) (fun _ hS => r_fa rfl) ?_
  refine zs_rdL rfl want_none rfl (by decide) (fun _ hS => r_loadB rfl hS (by rfl)) ?_
  refine zs_rdL rfl want_none rfl (by decide) (fun _ hS => r_fa rfl) ?_
  refine zs_rdL rfl want_none rfl (by decide) (fun _ hS => r_loadB rfl hS (by rfl)) ?_
  refine zs_rdL rfl want_none rfl (by decide) (fun _ hS => r_fa rfl) ?_
  refine zs_rdL rfl want_none rfl (by decide) (fun _ hS => r_loadB rfl hS (by rfl)) ?_
  refine zs_call rfl (by first | exact want_none | exact want_L rfl) rfl (by decide) rfl (bPut h3 (by omega) hW (by omega) A B C) ?_
  rintro _ w4 ⟨q4, N4, rfl, hR4, h4, hK4⟩
  have hs4 := hK4.chg.size
  refine ⟨_, rfl, hK4.blk _ _ _ (.inl rfl) (hb12.no hC3), ?_⟩
  skip
  refine zs_call rfl (by first | exact want_none | exact want_L rfl) rfl (by decide) rfl (bPutR h4 (by omega) hW (by omega) A B C) ?_
  rintro _ w5 ⟨q5, N5, rfl, hR5, h5, hK5⟩
  obtain ⟨rfl, rfl⟩ := hR4.det hR5
  refine ⟨_, rfl, hK5.blk _ _ _ (.inl rfl) (hK4.blk _ _ _ (.inl rfl) (hb12.no hC3)), ?_⟩
  have hwf := hR4.wf hW
  have hres : ∃ N', Ending.returned (Value.bool true) = .returned (.bool true) ∧ BB w5 p p' W N' N' ∧ WF N' ∧ BT (m + 50) N' ∧ N'.length ≤ N.length + 1 ∧ Keep W w w5 := ⟨N4, rfl, h5, hwf.1, (hR4.bt hB).mono (by omega), by have := hwf.2; omega, ((hk2.trans (Keep.no hC3)).trans hK4).trans hK5⟩
  skip
  refine zs_rdL rfl (by first | exact want_none | exact want_L rfl) rfl (by decide) (fun _ hS => r_eqb rfl rfl) ?_
  rw [beq_self_eq_true]
  refine zs_take rfl (zt_pure rfl ?_)
  refine zs_fin ?_
  refine zk_seq ?_
  refine zc_ret ?_
  exact zk_ret1 (.inr rfl) rfl rfl hres
end Go.Proofs.Ytjiehalanklapaa.D
