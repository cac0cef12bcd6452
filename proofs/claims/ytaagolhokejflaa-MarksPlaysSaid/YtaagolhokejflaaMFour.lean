import Derived.Test.YtaagolhokejflaaMFourL
/- MarksFour: the walk. -/
namespace Go.Proofs.Ytaagolhokejflaa.M
open Go Go.Z Go.Proofs
set_option linter.unusedVariables false
def relA (a b : Mark) : Bool := decide (0 ≤ a.node) && rel a b
def cnt (L : List Mark) (a : Mark) (k : Nat) : Nat := ((L.drop k).filter (relA a)).length
theorem cnt_cons (L : List Mark) (a : Mark) (k : Nat) (h : k < L.length) : cnt L a k = (if relA a (L.getD k Mark.z) then 1 else 0) + cnt L a (k + 1) := by
  unfold cnt
  rw [drop_cons Mark.z L k h, List.filter_cons]
  split
  · simp; omega
  · simp
theorem cnt_le (L : List Mark) (a : Mark) (k : Nat) : cnt L a k ≤ L.length := by
  unfold cnt
  exact Nat.le_trans (List.length_filter_le _ _) (by simp)
theorem cnt_three {L : List Mark} (h : Inv4 L) {a : Mark} (ha : a ∈ L) : cnt L a (beginN L L.length) ≤ 3 := by
  unfold cnt
  by_cases h0 : 0 ≤ a.node
  · have : (fun b => relA a b) = rel a := by funext b; simp [relA, h0]
    show ((L.drop _).filter (fun b => relA a b)).length ≤ 3
    rw [this]
    exact h.three a (h.good a ha h0)
  · have : (L.drop (beginN L L.length)).filter (relA a) = [] := List.filter_eq_nil_iff.2 (fun b _ => by simp [relA, h0])
    rw [this]; exact Nat.zero_le _
set_option maxHeartbeats 32000000 in
theorem MarksFour_walk (a1 : Option Addr) (n1 c1 : Nat) (z1 : List Int) (w : World) (hr1 : IsRow .i64 w a1 n1 c1 z1) :
    Calls Try.prog 4 #[.slice a1 n1 c1] w fun e w' => e = .returned (.bool true) ∧ RowKit.Below w.heap.size w w' := by
  show Calls Try.prog 4 [Value.slice a1 n1 c1].toArray w _
  refine calls_zc (n := 100) (f := 4) (fn := Try.f4) Try.func4 rfl rfl (by simp) ?_
  refine zc_seq ?_
  refine zc_region ?_
  refine zl_pureL rfl ?_
  refine zl_nil ?_
  refine zk_seq ?_
  iterate 2 (refine zc_seq ?_)
  refine zc_region ?_
  refine zl_call (by first | exact want_none | exact want_L rfl) rfl (by decide) rfl known_calls ?_
  rintro _ w1 ⟨rfl, hC1⟩
  refine ⟨_, rfl, ?_⟩
  refine zl_pureL rfl ?_
  refine zl_nil ?_
  refine zk_seq ?_
  refine zc_false rfl ?_
  refine zc_skip ?_
  refine zk_seq ?_
  refine zc_seq ?_
  refine zc_region ?_
  refine zl_call (by first | exact want_none | exact want_L rfl) rfl (by decide) rfl new_calls ?_
  rintro _ w2 ⟨g, rfl, hI, hC2, hge⟩
  refine ⟨_, rfl, ?_⟩
  have hF : Fr w w2 62 g (.slice none 0 0) [] := ⟨hI, by have := hC1.size; omega, (fun k hk => by cases hk), hC1.no hC2⟩
  refine zl_pureL rfl ?_
  refine zl_nil ?_
  refine zk_seq ?_
  iterate 2 (refine zc_seq ?_)
  refine zc_region ?_
  refine zl_pureL rfl ?_
  refine z_eqPN (by first | exact want_none | exact want_L rfl) (by decide) rfl rfl ?_
  refine zl_nil ?_
  refine zk_seq ?_
  refine zc_false rfl ?_
  refine zc_skip ?_
  refine zk_seq ?_
  refine zc_seq ?_
  refine zc_region ?_
  refine zl_pureL rfl ?_
  refine z_buildE #[.slice a1 n1 c1, .int .i64 0] (by first | exact want_none | exact want_L rfl) (by decide) rfl (by kernel_rfl) ?_
  refine z_box (by first | exact want_none | exact want_L rfl) (by decide) rfl (fun w3 bt hN3 => ?_)
  have ht3 : Blk w3 bt 38 [.slice a1 n1 c1, .int .i64 ((0 : Nat) : Int)] := hN3.blk
  have hF3 := hF.no hN3.chg
  have hbt : w.heap.size ≤ bt := hN3.ge (hC1.no hC2)
  refine zl_pureL rfl ?_
  refine zl_nil ?_
  refine zk_seq ?_
  iterate 2 (refine zc_seq ?_)
  refine zc_region ?_
  refine zl_pureL rfl ?_
  refine zl_nil ?_
  refine zk_seq ?_
  refine zc_block ?_
  refine zc_midB (fun u => Chg w u No) [] ?_ ?_
  · refine zc_loopW (ι := Nat × Value × List Mark × Nat) (fun k u => [(3, .pointer (some ⟨g, 0, none⟩)), (4, .pointer (some ⟨bt, 0, none⟩)), (5, .int .i64 k.1)])
      (fun k u => k.1 ≤ 50 ∧ Fr w u 62 g k.2.1 k.2.2.1 ∧ k.2.2.1.length ≤ k.1 ∧ Inv4 k.2.2.1 ∧ Blk u bt 38 [.slice a1 n1 c1, .int .i64 (k.2.2.2 : Nat)] ∧ k.2.2.2 ≤ n1) (fun k u => 50 - k.1) (0, .slice none 0 0, [], 0)
      ⟨Nat.zero_le _, hF3, Nat.le_refl _, Inv4.nil, ht3, Nat.zero_le _⟩ ?_ ?_
    · exact ⟨rfl, rfl, rfl, trivial⟩
    rintro ⟨i, v, L, at1⟩ u ⟨hi, hF, hLi, hL4, ht, hat⟩
    dsimp only at hi hF hLi hL4 ht hat
    by_cases h50 : i < 50
    · iterate 2 (refine zc_seq ?_)
      refine zc_region ?_
      refine zl_pureL rfl ?_
      refine z_cmpB (r := true) want_none (by decide) rfl rfl rfl (iff_of_true rfl (by omega)) ?_
      iterate 2 (refine zl_pureL rfl ?_)
      refine zl_call (by first | exact want_none | exact want_L rfl) rfl (by decide) rfl (more_calls ht) ?_
      rintro _ u1 ⟨rfl, hC1'⟩
      refine ⟨_, rfl, ?_⟩
      have hF1 := hF.no hC1'
      by_cases hm : at1 < n1
      · rw [decide_eq_true hm]
        refine zl_pureL rfl ?_
        refine zl_nil ?_
        refine zk_seq ?_
        refine zc_true rfl ?_
        refine zc_skip ?_
        refine zk_seq ?_
        refine zc_seq ?_
        refine zc_block ?_
        iterate 2 (refine zc_seq ?_)
        refine zc_region ?_
        refine zl_pureL rfl ?_
        refine zl_call (by first | exact want_none | exact want_L rfl) rfl (by decide) rfl (next_calls 8 (by decide) (by decide) (ht.no hC1') hr1 hF1.chg hbt hat) ?_
        rintro _ u2 ⟨k2, at2, hk2, rfl, ht2, hat2, hC2'⟩
        refine ⟨_, rfl, ?_⟩
        have hF2 := hF1.other (ht.no hC1') hC2' (by decide) (by decide) (by decide) hbt
        refine z_cmpB (r := decide ((k2 : Int) = 0)) (by first | exact want_none | exact want_L rfl) (by decide) rfl rfl rfl (by simp) ?_
        refine zl_nil ?_
        refine zk_seq ?_
        refine zc_midT (fun u' => ∃ v' L' at', Fr w u' 62 g v' L' ∧ L'.length ≤ i + 1 ∧ Inv4 L' ∧ Blk u' bt 38 [.slice a1 n1 c1, .int .i64 (at' : Nat)] ∧ at' ≤ n1) [(3, .pointer (some ⟨g, 0, none⟩)), (4, .pointer (some ⟨bt, 0, none⟩)), (5, .int .i64 i)] ?_ ?_
        · refine zc_cond rfl (fun hq => ?_) (fun hq => ?_)
          · refine zc_region ?_
            refine zl_pureL rfl ?_
            refine zl_call (by first | exact want_none | exact want_L rfl) rfl (by decide) rfl (wall_calls hF2.is (by omega)) ?_
            rintro _ u3 ⟨rfl, v3, hI3, hW3⟩
            refine ⟨_, rfl, ?_⟩
            refine zl_nil ?_
            exact zk_mid ⟨v3, _, at2, hF2.wr hI3 hW3, by simp; omega, hL4.wall, hW3.other hF2.is ht2 (by decide) (by decide), hat2⟩ ⟨rfl, rfl, rfl, trivial⟩
          · refine zc_region ?_
            iterate 3 (refine zl_pureL rfl ?_)
            refine zl_call (by first | exact want_none | exact want_L rfl) rfl (by decide) rfl (next_calls 2 (by decide) (by decide) ht2 hr1 hF2.chg hbt hat2) ?_
            rintro _ u3 ⟨k3, at3, hk3, rfl, ht3, hat3, hC3⟩
            refine ⟨_, rfl, ?_⟩
            have hF3 := hF2.other ht2 hC3 (by decide) (by decide) (by decide) hbt
            refine zl_call (by first | exact want_none | exact want_L rfl) rfl (by decide) rfl (name_calls k3) ?_
            rintro _ u4 ⟨rfl, hC4⟩
            refine ⟨_, rfl, ?_⟩
            have hF4 := hF3.no hC4
            have ht4 := ht3.no hC4
            refine zl_pureL rfl ?_
            refine zl_call (by first | exact want_none | exact want_L rfl) rfl (by decide) rfl (next_calls 4 (by decide) (by decide) ht4 hr1 hF4.chg hbt hat3) ?_
            rintro _ u5 ⟨k5, at5, hk5, rfl, ht5, hat5, hC5⟩
            refine ⟨_, rfl, ?_⟩
            have hF5 := hF4.other ht4 hC5 (by decide) (by decide) (by decide) hbt
            refine zl_call (by first | exact want_none | exact want_L rfl) rfl (by decide) rfl (attrs_calls k5) ?_
            rintro _ u6 ⟨va, rfl, ha6, hC6⟩
            refine ⟨_, rfl, ?_⟩
            have hF6 := hF5.no hC6
            refine z_buildE #[.int .i64 i, .string (nameN k3), va] (by first | exact want_none | exact want_L rfl) (by decide) rfl (by obtain ⟨A, c, rfl, _⟩ := ha6.form; kernel_rfl) ?_
            have hal := attrsN_len k5
            refine zl_call (by first | exact want_none | exact want_L rfl) rfl (by decide) rfl (push_calls hF6.is (by omega) ha6 (by omega) hL4.few) ?_
            rintro _ u7 ⟨rfl, v7, hI7, hW7⟩
            refine ⟨_, rfl, ?_⟩
            have hpl := pushM_len L ⟨i, nameN k3, attrsN k5⟩
            have h44 : At4 ⟨i, nameN k3, attrsN k5⟩ := ⟨k5, hk5, by
              show attrsL ((k5 : Int) % 7).toNat = attrsL k5
              rw [show ((k5 : Int) % 7).toNat = k5 by omega]⟩
            refine zl_nil ?_
            exact zk_mid ⟨v7, _, at5, hF6.wr hI7 hW7, by omega, hL4.push h44 (by show (0 : Int) ≤ i; omega) (by show (attrsN k5).length ≤ _; omega), hW7.other hF6.is (ht5.no hC6) (by decide) (by decide), hat5⟩ ⟨rfl, rfl, rfl, trivial⟩
        clear hF2 ht2 hat2 hF1 hF ht hat hL4 hLi hC2' hC1'
        rintro u3 ⟨v3, M, at3, hF3, hM, hM4, ht3, hat3⟩
        refine zc_seq ?_
        refine zc_region ?_
        refine zl_pureL rfl ?_
        refine zl_call (by first | exact want_none | exact want_L rfl) rfl (by decide) rfl (all_calls hF3.is (by omega) hM4.few) ?_
        rintro _ u4 ⟨vo, rfl, hT, hC4⟩
        refine ⟨_, rfl, ?_⟩
        have hms := hT.ms
        obtain ⟨A4, c4, rfl, hc4⟩ := hms.form
        have hF4 := hF3.no hC4
        have ht4 := ht3.no hC4
        obtain ⟨hs1, hs2⟩ := beginN_spec M M.length (Nat.le_refl _)
        have hble := beginN_le M M.length
        refine zl_pureL rfl ?_
        refine zl_nil ?_
        refine zk_seq ?_
        refine zc_seq ?_
        refine zc_region ?_
        refine zl_pureL rfl ?_
        refine zl_nil ?_
        refine zk_seq ?_
        refine zc_block ?_
        refine zc_loopW (ι := Nat) (fun k u => [(3, .pointer (some ⟨g, 0, none⟩)), (4, .pointer (some ⟨bt, 0, none⟩)), (5, .int .i64 i), (6, .slice A4 M.length c4), (7, .int .i64 k)])
          (fun k u => k ≤ M.length ∧ Chg u4 u No) (fun k u => M.length - k) 0 ⟨Nat.zero_le _, Chg.refl _ _⟩ ?_ ?_
        · exact ⟨rfl, rfl, rfl, rfl, rfl, trivial⟩
        rintro a u5 ⟨ha, hC5⟩
        by_cases ham : a < M.length
        · iterate 2 (refine zc_seq ?_)
          refine zc_region ?_
          iterate 2 (refine zl_pureL rfl ?_)
          refine z_len want_none (by decide) rfl ?_
          refine z_cmpB (r := true) want_none (by decide) rfl rfl rfl (iff_of_true rfl (by omega)) ?_
          refine zl_nil ?_
          refine zk_seq ?_
          refine zc_true rfl ?_
          refine zc_skip ?_
          refine zk_seq ?_
          refine zc_seq ?_
          refine zc_block ?_
          refine zc_seq ?_
          refine zc_region ?_
          refine zl_pureL rfl ?_
          refine zl_nil ?_
          refine zk_seq ?_
          iterate 2 (refine zc_seq ?_)
          refine zc_region ?_
          refine zl_pureL rfl ?_
          refine z_len want_none (by decide) rfl ?_
          refine z_sub want_none (by decide) rfl rfl (by omega) (by omega) ?_
          refine zl_pureL rfl ?_
          refine zl_nil ?_
          refine zk_seq ?_
          refine zc_block ?_
          have hax := getD_mem (d := Mark.z) ham
          have h3 := cnt_three hM4 hax
          refine zc_midB (fun u' => Chg u4 u' No) [(3, .pointer (some ⟨g, 0, none⟩)), (4, .pointer (some ⟨bt, 0, none⟩)), (5, .int .i64 i), (6, .slice A4 M.length c4), (7, .int .i64 a), (8, .int .i64 (cnt M (M.getD a Mark.z) (beginN M M.length)))] ?_ ?_
          · refine zc_loopW (ι := Nat) (fun k u => [(3, .pointer (some ⟨g, 0, none⟩)), (4, .pointer (some ⟨bt, 0, none⟩)), (5, .int .i64 i), (6, .slice A4 M.length c4), (7, .int .i64 a), (8, .int .i64 (cnt M (M.getD a Mark.z) k)), (9, .int .i64 ((k : Int) - 1))])
              (fun k u => beginN M M.length ≤ k ∧ k ≤ M.length ∧ Chg u4 u No) (fun k u => k) M.length ⟨hble, Nat.le_refl _, hC5⟩ ?_ ?_
            · refine ⟨rfl, rfl, rfl, rfl, rfl, get_int rfl ?_, rfl, trivial⟩
              unfold cnt; rw [List.drop_length]; rfl
            rintro k u6 ⟨hbk, hk, hC6⟩
            cases k with
            | zero =>
              iterate 2 (refine zc_seq ?_)
              refine zc_region ?_
              refine zl_pureL rfl ?_
              refine z_cmpB (r := false) want_none (by decide) rfl rfl rfl (iff_of_false Bool.false_ne_true (by omega)) ?_
              iterate 3 (refine zl_pureL rfl ?_)
              iterate 4 (refine zl_skip rfl ?_)
              refine zl_pureL rfl ?_
              refine zl_nil ?_
              refine zk_seq ?_
              refine zc_false rfl ?_
              refine zc_exit ?_
              iterate 2 (refine zk_exit_then ?_)
              refine zk_exit_block ?_
              exact zk_mid hC6 ⟨rfl, rfl, rfl, rfl, rfl, get_int rfl (by rw [show beginN M M.length = 0 by omega]), trivial⟩
            | succ k =>
              obtain ⟨b, o, c', B, hv, e0, e1, e2, hB⟩ := (hms.no hC6).at_ k (by omega)
              obtain ⟨b', o', c'', B', hv', e0', e1', e2', hB'⟩ := (hms.no hC6).at_ a ham
              cases hv; cases hv'
              iterate 2 (refine zc_seq ?_)
              refine zc_region ?_
              refine zl_pureL rfl ?_
              refine z_cmpB (r := true) want_none (by decide) rfl rfl rfl (iff_of_true rfl (by omega)) ?_
              iterate 3 (refine zl_pureL rfl ?_)
              refine z_ia (want_L rfl) (by decide) rfl rfl (by omega) (by omega) ?_
              refine z_fa (want_L rfl) (by decide) rfl ?_
              refine z_load1 (by first | exact want_none | exact want_L rfl) (by decide) rfl (cell_at e0 (by omega)) ?_
              by_cases hkb : k + 1 = beginN M M.length
              · have hneg : (M.getD k Mark.z).node < 0 := by
                  rcases hs2 with h | h
                  · omega
                  · rw [← hkb] at h; simpa using h
                refine z_cmpB (r := false) (want_L rfl) (by decide) rfl rfl rfl (iff_of_false Bool.false_ne_true (by omega)) ?_
                refine zl_pureL rfl ?_
                refine zl_nil ?_
                refine zk_seq ?_
                refine zc_false rfl ?_
                refine zc_exit ?_
                iterate 2 (refine zk_exit_then ?_)
                refine zk_exit_block ?_
                exact zk_mid hC6 ⟨rfl, rfl, rfl, rfl, rfl, get_int rfl (by rw [hkb]), trivial⟩
              · have hpos := hs1 k (by omega) (by omega)
                have hcc := cnt_cons M (M.getD a Mark.z) k (by omega)
                have hcl := cnt_le M (M.getD a Mark.z) k
                refine z_cmpB (r := true) (want_L rfl) (by decide) rfl rfl rfl (iff_of_true rfl (by omega)) ?_
                refine zl_pureL rfl ?_
                refine zl_nil ?_
                refine zk_seq ?_
                refine zc_true rfl ?_
                refine zc_skip ?_
                refine zk_seq ?_
                refine zc_seq ?_
                refine zc_block ?_
                refine zc_seq ?_
                have hx1 := hM4.few _ hax
                have hx2 := hM4.few _ (getD_mem (d := Mark.z) (show k < M.length by omega))
                generalize hxa : M.getD a Mark.z = xa at *
                generalize hxk : M.getD k Mark.z = xk at *
                refine zc_draw [] (fun w' => Chg u6 w' No) (.take 0 (.take 1 (.take 2 (.take 3 (.take 4 (.take 5 (.take 6 (.take 7 (.take 8 (.take 9 (.take 10 (.take 11 (.take 12 (.take 13 (.take 14 (.take 15 (.take 16 (.take 17 (.take 18 (.take 19 (.take 20 (.take 21 (.take 22 (.take 23 (.take 24 (.take 25 (.take 26 (.take 27 (.take 28 (.take 29 (.all1 30 (.take 31 (.fin))))))))))))))))))))))))))))))))) (by rfl) (by kernel_rfl) (by kernel_rfl) (fun w1 hC1 hH1 => ⟨?_, ?_⟩)
                · exact hC1
                have hC7 : Chg u6 w1 No := hC1
                iterate 2 (refine zs_take rfl (zt_pure rfl ?_))
                refine zs_rdL rfl want_none rfl (by decide) (fun _ hS => r_ia rfl rfl (by omega) (by omega)) ?_
                refine zs_rdL rfl want_none rfl (by decide) (fun _ hS => r_fa rfl) ?_
                refine zs_rdL rfl (by first | exact want_none | exact want_L rfl) rfl (by decide) (fun _ hS => r_load1 rfl (cell_at (cell_no hS e0') (by omega))) ?_
                refine zs_cmp rfl (by first | exact want_none | exact want_L rfl) (by decide) rfl rfl rfl (fun hc => ?_) (fun hc => ?_)
                · iterate 3 (refine zs_take rfl (zt_pure rfl ?_))
                  refine zs_rdL rfl (want_L rfl) rfl (by decide) (fun _ hS => r_ia rfl rfl (by omega) (by omega)) ?_
                  refine zs_rdL rfl (want_L rfl) rfl (by decide) (fun _ hS => r_fa rfl) ?_
                  refine zs_rdL rfl (by first | exact want_none | exact want_L rfl) rfl (by decide) (fun _ hS => r_load1 rfl (cell_at (cell_no hS e1') (by omega))) ?_
                  iterate 2 (refine zs_take rfl (zt_pure rfl ?_))
                  refine zs_rdL rfl (want_L rfl) rfl (by decide) (fun _ hS => r_ia rfl rfl (by omega) (by omega)) ?_
                  refine zs_rdL rfl (want_L rfl) rfl (by decide) (fun _ hS => r_fa rfl) ?_
                  refine zs_rdL rfl (by first | exact want_none | exact want_L rfl) rfl (by decide) (fun _ hS => r_load1 rfl (cell_at (cell_no hS e1) (by omega))) ?_
                  refine zs_eqS rfl (by first | exact want_none | exact want_L rfl) (by decide) rfl rfl (fun hc => ?_) (fun hc => ?_)
                  · iterate 4 (refine zs_take rfl (zt_pure rfl ?_))
                    refine zs_rdL rfl (want_L rfl) rfl (by decide) (fun _ hS => r_ia rfl rfl (by omega) (by omega)) ?_
                    refine zs_rdL rfl (want_L rfl) rfl (by decide) (fun _ hS => r_fa rfl) ?_
                    refine zs_rdL rfl (by first | exact want_none | exact want_L rfl) rfl (by decide) (fun _ hS => r_load1 rfl (cell_at (cell_no hS e2') (by omega))) ?_
                    iterate 2 (refine zs_take rfl (zt_pure rfl ?_))
                    refine zs_rdL rfl (want_L rfl) rfl (by decide) (fun _ hS => r_ia rfl rfl (by omega) (by omega)) ?_
                    refine zs_rdL rfl (want_L rfl) rfl (by decide) (fun _ hS => r_fa rfl) ?_
                    refine zs_rdL rfl (by first | exact want_none | exact want_L rfl) rfl (by decide) (fun _ hS => r_load1 rfl (cell_at (cell_no hS e2) (by omega))) ?_
                    refine zs_call rfl (by first | exact want_none | exact want_L rfl) rfl (by decide) rfl (same3_calls (hB'.no hC7) (hB.no hC7) hx1 hx2) ?_
                    rintro _ u8 ⟨rfl, hC8⟩
                    refine ⟨_, rfl, hC7.no hC8, ?_⟩
                    have hre : relA xa xk = rsame xa.attrs xk.attrs := by
                      have h1 : decide (0 ≤ xa.node) = true := decide_eq_true (by omega)
                      have h2 : decide (xa.name = xk.name) = true := decide_eq_true (by assumption)
                      unfold relA rel; rw [h1, h2]; rfl
                    rw [hre] at hcc
                    cases hs : rsame xa.attrs xk.attrs
                    · rw [hs] at hcc
                      have hcc' : cnt M xa k = cnt M xa (k + 1) := by rw [hcc]; simp
                      refine zs_take rfl (zt_pure rfl ?_)
                      refine zs_fin ?_
                      refine zk_seq ?_
                      refine zc_false rfl ?_
                      refine zc_skip ?_
                      refine zk_norm_block ?_
                      refine zk_seq ?_
                      refine zc_region ?_
                      refine zl_pureL rfl ?_
                      refine z_sub want_none (by decide) rfl rfl (by omega) (by omega) ?_
                      refine zl_pureL rfl ?_
                      refine zl_nil ?_
                      exact zk_loopW k ⟨by omega, by omega, (hC6.no hC7).no hC8⟩ (by omega) ⟨rfl, rfl, rfl, rfl, rfl, get_int rfl (by omega), get_int rfl (by omega), trivial⟩
                    · rw [hs] at hcc
                      have hcc' : cnt M xa k = 1 + cnt M xa (k + 1) := by rw [hcc]; simp
                      refine zs_take rfl (zt_pure rfl ?_)
                      refine zs_fin ?_
                      refine zk_seq ?_
                      refine zc_true rfl ?_
                      refine zc_region ?_
                      refine zl_pureL rfl ?_
                      refine z_add want_none (by decide) rfl rfl (by omega) (by omega) ?_
                      refine zl_pureL rfl ?_
                      refine zl_nil ?_
                      refine zk_norm_block ?_
                      refine zk_seq ?_
                      refine zc_region ?_
                      refine zl_pureL rfl ?_
                      refine z_sub want_none (by decide) rfl rfl (by omega) (by omega) ?_
                      refine zl_pureL rfl ?_
                      refine zl_nil ?_
                      exact zk_loopW k ⟨by omega, by omega, (hC6.no hC7).no hC8⟩ (by omega) ⟨rfl, rfl, rfl, rfl, rfl, get_int rfl (by omega), get_int rfl (by omega), trivial⟩
                  · have hre : relA xa xk = false := by
                      have h2 : decide (xa.name = xk.name) = false := decide_eq_false (by assumption)
                      unfold relA rel; rw [h2]; simp
                    rw [hre] at hcc
                    have hcc' : cnt M xa k = cnt M xa (k + 1) := by rw [hcc]; simp
                    iterate 4 (refine zs_take rfl (zt_pure rfl ?_))
                    iterate 3 (refine zs_take rfl (zt_skip rfl ?_))
                    iterate 2 (refine zs_take rfl (zt_pure rfl ?_))
                    iterate 3 (refine zs_take rfl (zt_skip rfl ?_))
                    refine zs_alone rfl (za_skip rfl ?_)
                    refine zs_take rfl (zt_pure rfl ?_)
                    refine zs_fin ?_
                    refine zk_seq ?_
                    refine zc_false rfl ?_
                    refine zc_skip ?_
                    refine zk_norm_block ?_
                    refine zk_seq ?_
                    refine zc_region ?_
                    refine zl_pureL rfl ?_
                    refine z_sub want_none (by decide) rfl rfl (by omega) (by omega) ?_
                    refine zl_pureL rfl ?_
                    refine zl_nil ?_
                    exact zk_loopW k ⟨by omega, by omega, hC6.no hC7⟩ (by omega) ⟨rfl, rfl, rfl, rfl, rfl, get_int rfl (by omega), get_int rfl (by omega), trivial⟩
                · have hre : relA xa xk = false := by
                    have h2 : decide (0 ≤ xa.node) = false := decide_eq_false (by omega)
                    unfold relA; rw [h2]; simp
                  rw [hre] at hcc
                  have hcc' : cnt M xa k = cnt M xa (k + 1) := by rw [hcc]; simp
                  iterate 3 (refine zs_take rfl (zt_pure rfl ?_))
                  iterate 3 (refine zs_take rfl (zt_skip rfl ?_))
                  iterate 2 (refine zs_take rfl (zt_pure rfl ?_))
                  iterate 4 (refine zs_take rfl (zt_skip rfl ?_))
                  iterate 4 (refine zs_take rfl (zt_pure rfl ?_))
                  iterate 3 (refine zs_take rfl (zt_skip rfl ?_))
                  iterate 2 (refine zs_take rfl (zt_pure rfl ?_))
                  iterate 3 (refine zs_take rfl (zt_skip rfl ?_))
                  refine zs_alone rfl (za_skip rfl ?_)
                  refine zs_take rfl (zt_pure rfl ?_)
                  refine zs_fin ?_
                  refine zk_seq ?_
                  refine zc_false rfl ?_
                  refine zc_skip ?_
                  refine zk_norm_block ?_
                  refine zk_seq ?_
                  refine zc_region ?_
                  refine zl_pureL rfl ?_
                  refine z_sub want_none (by decide) rfl rfl (by omega) (by omega) ?_
                  refine zl_pureL rfl ?_
                  refine zl_nil ?_
                  exact zk_loopW k ⟨by omega, by omega, hC6.no hC7⟩ (by omega) ⟨rfl, rfl, rfl, rfl, rfl, get_int rfl (by omega), get_int rfl (by omega), trivial⟩
          intro u7 hC7
          refine zc_seq ?_
          refine zc_region ?_
          refine zl_pureL rfl ?_
          refine z_cmpB (r := false) want_none (by decide) rfl rfl rfl (iff_of_false Bool.false_ne_true (by omega)) ?_
          refine zl_nil ?_
          refine zk_seq ?_
          refine zc_false rfl ?_
          refine zc_skip ?_
          refine zk_norm_block ?_
          refine zk_seq ?_
          refine zc_region ?_
          refine zl_pureL rfl ?_
          refine z_add want_none (by decide) rfl rfl (by omega) (by omega) ?_
          refine zl_pureL rfl ?_
          refine zl_nil ?_
          exact zk_loopW (a + 1) ⟨by omega, hC7⟩ (by omega) ⟨rfl, rfl, rfl, rfl, get_int rfl (by simp), trivial⟩
        · obtain rfl : a = M.length := by omega
          iterate 2 (refine zc_seq ?_)
          refine zc_region ?_
          iterate 2 (refine zl_pureL rfl ?_)
          refine z_len want_none (by decide) rfl ?_
          refine z_cmpB (r := false) want_none (by decide) rfl rfl rfl (iff_of_false Bool.false_ne_true (by omega)) ?_
          refine zl_nil ?_
          refine zk_seq ?_
          refine zc_false rfl ?_
          refine zc_exit ?_
          iterate 2 (refine zk_exit_then ?_)
          refine zk_exit_block ?_
          refine zk_norm_block ?_
          refine zk_seq ?_
          refine zc_region ?_
          refine zl_pureL rfl ?_
          refine z_add want_none (by decide) rfl rfl (by omega) (by omega) ?_
          refine zl_pureL rfl ?_
          refine zl_nil ?_
          exact zk_loopW (i + 1, v3, M, at3) ⟨by omega, hF4.no hC5, by omega, hM4, ht4.no hC5, hat3⟩ (by simp; omega) ⟨rfl, rfl, get_int rfl (by simp), trivial⟩
      · rw [decide_eq_false hm]
        refine zl_pureL rfl ?_
        refine zl_nil ?_
        refine zk_seq ?_
        refine zc_false rfl ?_
        refine zc_exit ?_
        iterate 2 (refine zk_exit_then ?_)
        refine zk_exit_block ?_
        exact zk_mid hF1.chg trivial
    · iterate 2 (refine zc_seq ?_)
      refine zc_region ?_
      refine zl_pureL rfl ?_
      refine z_cmpB (r := false) want_none (by decide) rfl rfl rfl (iff_of_false Bool.false_ne_true (by omega)) ?_
      iterate 2 (refine zl_pureL rfl ?_)
      refine zl_skip rfl ?_
      refine zl_pureL rfl ?_
      refine zl_nil ?_
      refine zk_seq ?_
      refine zc_false rfl ?_
      refine zc_exit ?_
      iterate 2 (refine zk_exit_then ?_)
      refine zk_exit_block ?_
      exact zk_mid hF.chg trivial
  intro u hC
  refine zc_seq ?_
  refine zc_region ?_
  refine zl_pureL rfl ?_
  refine zl_nil ?_
  refine zk_seq ?_
  refine zc_ret ?_
  exact zk_ret1 (.inr rfl) rfl rfl ⟨rfl, hC.below⟩
end Go.Proofs.Ytaagolhokejflaa.M
