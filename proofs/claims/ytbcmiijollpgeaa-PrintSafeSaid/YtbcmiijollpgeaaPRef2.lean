import Derived.Test.YtbcmiijollpgeaaPRef
/- The document's text of articles: attributes, elements, all. -/
namespace Go.Proofs.Ytbcmiijollpgeaa.T
open Go Go.Z Go.Proofs
set_option linter.unusedVariables false
set_option maxHeartbeats 8000000 in
theorem attrsR_calls {w : World} {v : Value} {l : List At} (h : AttrS false w v l) (hl : attrsN l ≤ big) : Calls Try.prog 28 [v].toArray w fun e w' => e = .returned (.string (bs (attrsS l))) ∧ Chg w w' No := by
  have hbig : big = 1000000000000 := rfl
  rw [hbig] at hl
  have hcl := attrs_cnt l
  obtain ⟨A, c, rfl, hc⟩ := h.form
  refine calls_zc (n := 29) (f := 28) (fn := Try.f28) Try.func28 rfl rfl (by simp) ?_
  refine zc_seq ?_
  refine zc_region ?_
  refine zl_pureL rfl ?_
  refine zl_nil ?_
  refine zk_seq ?_
  refine zc_seq ?_
  refine zc_region ?_
  refine zl_pureL rfl ?_
  refine zl_nil ?_
  refine zk_seq ?_
  iterate 2 (refine zc_seq ?_)
  refine zc_region ?_
  refine zl_pureL rfl ?_
  refine zl_nil ?_
  refine zk_seq ?_
  refine zc_block ?_
  refine zc_loopW (ι := Nat × List UInt8) (fun q u => [(0, .slice A l.length c), (3, .string (bs q.2)), (4, .int .i64 q.1)])
    (fun q u => q.1 ≤ l.length ∧ q.2 ++ attrsS (l.drop q.1) = attrsS l ∧ Chg w u No) (fun q u => l.length - q.1) (0, []) ⟨Nat.zero_le _, rfl, Chg.refl _ _⟩ ?_ ?_
  · exact ⟨rfl, rfl, rfl, trivial⟩
  rintro ⟨i, out⟩ u ⟨hi, hd, hC⟩
  dsimp only at hi hd hC ⊢
  have hol : out.length ≤ attrsN l := by
    have := congrArg List.length hd
    have h2 := attrs_len l
    simp only [List.length_append] at this; omega
  by_cases hlt : i < l.length
  · obtain ⟨b, o, c', hv, h0, h1⟩ := (h.no hC).at_ i hlt
    cases hv
    obtain ⟨e1, e2⟩ := attrs_drop l i hlt
    have e3 := attrsN_drop l i
    have hsl := safe_len true (l.getD i at0).2
    rw [e1] at hd
    unfold attrP at hd
    generalize l.getD i at0 = a at h0 h1 hd e2 hsl
    obtain ⟨ak, av⟩ := a
    dsimp only at h0 h1 hd e2 hsl
    iterate 2 (refine zc_seq ?_)
    refine zc_region ?_
    iterate 2 (refine zl_pureL rfl ?_)
    refine z_len want_none (by decide) rfl ?_
    refine z_cmpB (r := true) want_none (by decide) rfl rfl rfl (iff_of_true rfl (by omega)) ?_
    refine zl_nil ?_
    refine zk_seq ?_
    refine zc_true rfl ?_
    refine zc_skip ?_
    refine zk_seq ?_
    refine zc_seq ?_
    refine zc_block ?_
    refine zc_draw [] (fun w' => Chg u w' No) (.take 0 (.take 1 (.take 2 (.take 3 (.take 4 (.take 5 (.take 6 (.take 7 (.take 8 (.take 9 (.take 10 (.take 11 (.take 12 (.take 13 (.all1 14 (.take 15 (.take 16 (.take 17 (.fin))))))))))))))))))) (by rfl) (by kernel_rfl) (by kernel_rfl) (fun u3 hC3 _ => ⟨?_, ?_⟩)
    · exact hC3
    refine zs_take rfl (zt_pure rfl ?_)
    refine zs_rdL rfl want_none rfl (by decide) (fun _ hS => r_catL rfl rfl (by simp only [List.length_append, List.length_cons, List.length_nil]; omega)) ?_
    iterate 2 (refine zs_take rfl (zt_pure rfl ?_))
    refine zs_rdL rfl want_none rfl (by decide) (fun _ hS => r_ia rfl rfl (by omega) (by omega)) ?_
    refine zs_rdL rfl want_none rfl (by decide) (fun _ hS => r_fa rfl) ?_
    refine zs_rdL rfl (by first | exact want_none | exact want_L rfl) rfl (by decide) (fun _ hS => r_load1 rfl (cell_at (cell_keep hS h0) (by omega))) ?_
    iterate 2 (refine zs_rdL rfl want_none rfl (by decide) (fun _ hS => r_catL rfl rfl (by simp only [List.length_append, List.length_cons, List.length_nil]; omega)) ?_)
    iterate 2 (refine zs_take rfl (zt_pure rfl ?_))
    refine zs_rdL rfl want_none rfl (by decide) (fun _ hS => r_ia rfl rfl (by omega) (by omega)) ?_
    refine zs_rdL rfl want_none rfl (by decide) (fun _ hS => r_fa rfl) ?_
    refine zs_rdL rfl (by first | exact want_none | exact want_L rfl) rfl (by decide) (fun _ hS => r_load1 rfl (cell_at (cell_keep hS h1) (by omega))) ?_
    refine zs_call rfl (by first | exact want_none | exact want_L rfl) rfl (by decide) rfl (safeR_calls av true (by rw [hbig]; omega)) ?_
    rintro _ u4 ⟨rfl, hC4⟩
    refine ⟨_, rfl, hC3.no hC4, ?_⟩
    iterate 2 (refine zs_rdL rfl want_none rfl (by decide) (fun _ hS => r_catL rfl rfl (by simp only [List.length_append, List.length_cons, List.length_nil]; omega)) ?_)
    refine zs_take rfl (zt_pure rfl ?_)
    refine zs_fin ?_
    refine zk_norm_block ?_
    refine zk_seq ?_
    refine zc_region ?_
    refine zl_pureL rfl ?_
    refine z_add want_none (by decide) rfl rfl (by omega) (by omega) ?_
    refine zl_pureL rfl ?_
    refine zl_nil ?_
    exact zk_loopW (i + 1, out ++ [32] ++ ak ++ [61, 34] ++ safeN true av ++ [34]) ⟨by omega, by rw [← hd]; simp only [List.append_assoc], (hC.no hC3).no hC4⟩ (by show l.length - (i + 1) < l.length - i; omega) ⟨rfl, rfl, get_int rfl (by simp), trivial⟩
  · obtain rfl : i = l.length := by omega
    rw [List.drop_length, show attrsS [] = [] from rfl, List.append_nil] at hd
    iterate 2 (refine zc_seq ?_)
    refine zc_region ?_
    iterate 2 (refine zl_pureL rfl ?_)
    refine z_len want_none (by decide) rfl ?_
    refine z_cmpB (r := false) want_none (by decide) rfl rfl rfl (iff_of_false Bool.false_ne_true (by omega)) ?_
    refine zl_nil ?_
    refine zk_seq ?_
    refine zc_false rfl ?_
    refine zc_exit ?_
    iterate 2 (refine zk_exit_then ?_)
    refine zk_exit_block ?_
    refine zk_seq ?_
    refine zc_seq ?_
    refine zc_region ?_
    iterate 2 (refine zl_pureL rfl ?_)
    refine zl_nil ?_
    refine zk_seq ?_
    refine zc_ret ?_
    exact zk_ret1 (.inr rfl) rfl rfl ⟨by rw [hd], hC⟩
theorem openR_calls {w : World} {v : Value} {l : List At} (nm : List UInt8) (h : AttrS false w v l) (hl : nm.length + attrsN l ≤ big) : Calls Try.prog 13 [.string (bs nm), v].toArray w fun e w' => e = .returned (.string (bs (openS nm l))) ∧ Chg w w' No := by
  have hbig : big = 1000000000000 := rfl
  have hl2 : attrsN l ≤ big := by omega
  rw [hbig] at hl
  have hal := attrs_len l
  obtain ⟨A, c, rfl, hc⟩ := h.form
  refine calls_zc (n := 11) (f := 13) (fn := Try.f13) Try.func13 rfl rfl (by simp) ?_
  refine zc_seq ?_
  refine zc_region ?_
  refine zl_pureL rfl ?_
  refine zl_nil ?_
  refine zk_seq ?_
  refine zc_seq ?_
  refine zc_region ?_
  refine zl_pureL rfl ?_
  refine z_catL want_none (by decide) rfl rfl (by simp only [List.length_append, List.length_cons, List.length_nil]; omega) ?_
  refine zl_pureL rfl ?_
  refine zl_call (by first | exact want_none | exact want_L rfl) rfl (by decide) rfl (attrsR_calls h hl2) ?_
  rintro _ u ⟨rfl, hC⟩
  refine ⟨_, rfl, ?_⟩
  iterate 2 (refine z_catL want_none (by decide) rfl rfl (by simp only [List.length_append, List.length_cons, List.length_nil]; omega) ?_)
  refine zl_pureL rfl ?_
  refine zl_nil ?_
  refine zk_seq ?_
  refine zc_ret ?_
  exact zk_ret1 (.inr rfl) rfl rfl ⟨rfl, hC⟩
set_option maxHeartbeats 16000000 in
theorem textR_calls : ∀ (f : Nat) {w : World} {v : Value} (t : AT), t.size ≤ f → TreeAt false w v t → t.wt ≤ big → Calls Try.prog 11 [v].toArray w fun e w' => e = .returned (.string (bs t.text)) ∧ Chg w w' No := by
  intro f
  have hbig : big = 1000000000000 := rfl
  induction f with
  | zero =>
    intro w v t hs h hl
    cases t with
    | cons x k r => simp [AT.size] at hs
    | nil =>
      obtain ⟨A, c, rfl, hc⟩ := h.form
      refine calls_zc (n := 82) (f := 11) (fn := Try.f11) Try.func11 rfl rfl (by simp) ?_
      refine zc_seq ?_
      refine zc_region ?_
      refine zl_pureL rfl ?_
      refine zl_nil ?_
      refine zk_seq ?_
      refine zc_seq ?_
      refine zc_region ?_
      refine zl_pureL rfl ?_
      refine zl_nil ?_
      refine zk_seq ?_
      iterate 2 (refine zc_seq ?_)
      refine zc_region ?_
      refine zl_pureL rfl ?_
      refine zl_nil ?_
      refine zk_seq ?_
      refine zc_block ?_
      refine zc_loopW (ι := Nat) (fun i u => [(0, .slice A 0 c), (3, .string (bs [])), (4, .int .i64 0)]) (fun i u => u = w) (fun i u => 0) 0 rfl ?_ ?_
      · exact ⟨rfl, rfl, rfl, trivial⟩
      rintro i u rfl
      iterate 2 (refine zc_seq ?_)
      refine zc_region ?_
      iterate 2 (refine zl_pureL rfl ?_)
      refine z_len want_none (by decide) rfl ?_
      refine z_cmpB (r := false) want_none (by decide) rfl rfl rfl (iff_of_false Bool.false_ne_true (by omega)) ?_
      refine zl_nil ?_
      refine zk_seq ?_
      refine zc_false rfl ?_
      refine zc_exit ?_
      iterate 2 (refine zk_exit_then ?_)
      refine zk_exit_block ?_
      refine zk_seq ?_
      refine zc_seq ?_
      refine zc_region ?_
      iterate 2 (refine zl_pureL rfl ?_)
      refine zl_nil ?_
      refine zk_seq ?_
      refine zc_ret ?_
      exact zk_ret1 (.inr rfl) rfl rfl ⟨rfl, Chg.refl _ _⟩
  | succ f ih' =>
    have ih : ∀ (t : AT), t.size ≤ f → ∀ {w : World} {v : Value}, TreeAt false w v t → t.wt ≤ big → Calls Try.prog 11 [v].toArray w fun e w' => e = .returned (.string (bs t.text)) ∧ Chg w w' No := fun t ht w v h hl => ih' t ht h hl
    intro w v t hs h hl
    obtain ⟨A, c, hv, hc⟩ := h.form
    have hlw := len_wt t
    have htl := text_len t
    subst hv
    rw [hbig] at hl
    refine calls_zc (n := 82) (f := 11) (fn := Try.f11) Try.func11 rfl rfl (by simp) ?_
    refine zc_seq ?_
    refine zc_region ?_
    refine zl_pureL rfl ?_
    refine zl_nil ?_
    refine zk_seq ?_
    refine zc_seq ?_
    refine zc_region ?_
    refine zl_pureL rfl ?_
    refine zl_nil ?_
    refine zk_seq ?_
    iterate 2 (refine zc_seq ?_)
    refine zc_region ?_
    refine zl_pureL rfl ?_
    refine zl_nil ?_
    refine zk_seq ?_
    refine zc_block ?_
    refine zc_loopW (ι := Nat × List UInt8) (fun q u => [(0, .slice A t.len c), (3, .string (bs q.2)), (4, .int .i64 q.1)])
      (fun q u => q.1 ≤ t.len ∧ q.2 ++ (t.dropN q.1).text = t.text ∧ q.2.length + (t.dropN q.1).wt ≤ t.wt ∧ Chg w u No) (fun q u => t.len - q.1) (0, []) ⟨Nat.zero_le _, rfl, by simp [AT.dropN], Chg.refl _ _⟩ ?_ ?_
    · exact ⟨rfl, rfl, rfl, trivial⟩
    rintro ⟨i, out⟩ u ⟨hi, hd, hw, hCu⟩
    dsimp only at hi hd hw hCu ⊢
    by_cases hlt : i < t.len
    rotate_left
    · obtain rfl : i = t.len := by omega
      rw [t.drop_len] at hd
      have hd' : out = t.text := by simpa [AT.text] using hd
      subst hd'
      iterate 2 (refine zc_seq ?_)
      refine zc_region ?_
      iterate 2 (refine zl_pureL rfl ?_)
      refine z_len want_none (by decide) rfl ?_
      refine z_cmpB (r := false) want_none (by decide) rfl rfl rfl (iff_of_false Bool.false_ne_true (by omega)) ?_
      refine zl_nil ?_
      refine zk_seq ?_
      refine zc_false rfl ?_
      refine zc_exit ?_
      iterate 2 (refine zk_exit_then ?_)
      refine zk_exit_block ?_
      refine zk_seq ?_
      refine zc_seq ?_
      refine zc_region ?_
      iterate 2 (refine zl_pureL rfl ?_)
      refine zl_nil ?_
      refine zk_seq ?_
      refine zc_ret ?_
      exact zk_ret1 (.inr rfl) rfl rfl ⟨rfl, hCu⟩
    obtain ⟨b', o, c', x, k, r, A', F, K, e1, hv, hN, hA, hF, hK⟩ := (h.no hCu).at_ i hlt
    cases hv
    have hsz := t.drop_size i
    have hdt := drop_text t i x k r e1
    rw [hdt] at hd
    rw [e1] at hsz hw
    simp only [AT.size, AT.wt] at hsz hw
    have hds := t.drop_succ i x k r e1
    rw [hds] at hd
    obtain ⟨nm, at', tx⟩ := x
    dsimp only at hA hw hN
    obtain ⟨A2, c2, rfl, _⟩ := hA.form
    obtain ⟨A3, m3, c3, rfl⟩ := hF
    obtain ⟨A4, c4, rfl, _⟩ := hK.form
    have hsl := safe_len false tx
    have hktl := text_len k
    have hlo : (openS nm at').length ≤ nm.length + attrsN at' + 2 := by
      have := attrs_len at'
      simp only [openS, List.length_append, List.length_cons, List.length_nil]; omega
    iterate 2 (refine zc_seq ?_)
    refine zc_region ?_
    iterate 2 (refine zl_pureL rfl ?_)
    refine z_len want_none (by decide) rfl ?_
    refine z_cmpB (r := true) want_none (by decide) rfl rfl rfl (iff_of_true rfl (by omega)) ?_
    refine zl_nil ?_
    refine zk_seq ?_
    refine zc_true rfl ?_
    refine zc_skip ?_
    refine zk_seq ?_
    refine zc_seq ?_
    refine zc_block ?_
    refine zc_seq ?_
    refine zc_region ?_
    iterate 2 (refine zl_pureL rfl ?_)
    refine z_ia want_none (by decide) rfl rfl (by omega) (by omega) ?_
    refine z_loadA (by rfl) (by first | exact want_none | exact want_L rfl) (by decide) rfl (hN.agg (by omega)) ?_
    refine z_alloc (by first | exact want_none | exact want_L rfl) (by decide) (fun u1 b1 hN1 => ?_)
    have hb1 : Blk u1 b1 38 [.string ⟨#[]⟩, nS, .string ⟨#[]⟩, nS, nS] := hN1.blk
    skip
    refine z_store (by first | exact want_none | exact want_L rfl) rfl rfl rfl (by assumption) (by first | exact Nat.le_refl _ | simp [Value.cells]) (by simp [Value.cells, Value.oneCell']) (fun u2 hU2 => ?_)
    have hb20 : Blk u2 b1 38 [.string (bs nm), .slice A2 at'.length c2, .string (bs tx), .slice A3 m3 c3, .slice A4 k.len c4] := hU2.blk
    have hX20 : Chg u u2 No := hN1.chg.upd hU2 (hN1.ge (Chg.refl _ No))
    refine zl_nil ?_
    refine zk_seq ?_
    iterate 2 (refine zc_seq ?_)
    refine zc_region ?_
    refine z_fa want_none (by decide) rfl ?_
    refine z_loadB want_none (by decide) rfl (by assumption) (by rfl) ?_
    refine z_eqL (r := []) (by first | exact want_none | exact want_L rfl) (by decide) rfl rfl (fun hc => ?_) (fun hc => ?_)
    · refine zl_nil ?_
      refine zk_seq ?_
      refine zc_true rfl ?_
      refine zc_seq ?_
      refine zc_region ?_
      refine zl_pureL rfl ?_
      refine z_fa want_none (by decide) rfl ?_
      refine z_loadB want_none (by decide) rfl (by assumption) (by rfl) ?_
      refine zl_call (by first | exact want_none | exact want_L rfl) rfl (by decide) rfl (safeR_calls tx false (by rw [hbig]; omega)) ?_
      rintro _ u3 ⟨rfl, hX3⟩
      refine ⟨_, rfl, ?_⟩
      refine z_catL want_none (by decide) rfl rfl (by omega) ?_
      refine zl_pureL rfl ?_
      refine zl_nil ?_
      refine zk_seq ?_
      refine zc_exit ?_
      refine zk_exit_then ?_
      refine zk_exit_block ?_
      refine zk_seq ?_
      refine zc_region ?_
      refine zl_pureL rfl ?_
      refine z_add want_none (by decide) rfl rfl (by omega) (by omega) ?_
      refine zl_pureL rfl ?_
      refine zl_nil ?_
      refine zk_loopW (i + 1, out ++ safeN false tx) ⟨by omega, ?_, ?_, (hCu.no hX20).no hX3⟩ (by show t.len - (i + 1) < t.len - i; omega) ⟨rfl, rfl, get_int rfl (by simp), trivial⟩
      · dsimp only
        rw [← hd, hds]
        unfold oneS
        dsimp only
        rw [if_pos hc, List.append_assoc]
      · dsimp only
        rw [hds, List.length_append]; omega
    · refine zl_nil ?_
      refine zk_seq ?_
      refine zc_false rfl ?_
      refine zc_skip ?_
      refine zk_seq ?_
      refine zc_seq ?_
      refine zc_region ?_
      refine zl_pureL rfl ?_
      refine z_fa want_none (by decide) rfl ?_
      refine z_loadB want_none (by decide) rfl (by assumption) (by rfl) ?_
      refine z_fa want_none (by decide) rfl ?_
      refine z_loadB want_none (by decide) rfl (by assumption) (by rfl) ?_
      refine zl_call (by first | exact want_none | exact want_L rfl) rfl (by decide) rfl (openR_calls nm (hA.no hX20) (by rw [hbig]; omega)) ?_
      rintro _ u3 ⟨rfl, hX3⟩
      refine ⟨_, rfl, ?_⟩
      have hb2 := hb20.no hX3
      have hX2 : Chg u u3 No := hX20.no hX3
      rw [← hds] at hd
      refine z_catL want_none (by decide) rfl rfl (by omega) ?_
      refine zl_pureL rfl ?_
      refine zl_nil ?_
      refine zk_seq ?_
      iterate 2 (refine zc_seq ?_)
      refine zc_region ?_
      refine z_fa want_none (by decide) rfl ?_
      refine z_loadB want_none (by decide) rfl (by assumption) (by rfl) ?_
      refine z_eqL (r := nBr) (by first | exact want_none | exact want_L rfl) (by decide) rfl rfl (fun hbr => ?_) (fun hbr => ?_)
      · refine zl_pureL rfl ?_
        iterate 3 (refine zl_skip rfl ?_)
        iterate 2 (refine zl_pureL rfl ?_)
        iterate 3 (refine zl_skip rfl ?_)
        refine zl_pureL rfl ?_
        refine zl_nil ?_
        refine zk_seq ?_
        refine zc_true rfl ?_
        refine zc_exit ?_
        refine zk_exit_then ?_
        refine zk_exit_block ?_
        refine zk_seq ?_
        refine zc_region ?_
        refine zl_pureL rfl ?_
        refine z_add want_none (by decide) rfl rfl (by omega) (by omega) ?_
        refine zl_pureL rfl ?_
        refine zl_nil ?_
        refine zk_loopW (i + 1, out ++ openS nm at') ⟨by omega, ?_, ?_, hCu.no hX2⟩ (by show t.len - (i + 1) < t.len - i; omega) ⟨rfl, rfl, get_int rfl (by simp), trivial⟩
        · dsimp only
          rw [← hd]
          unfold oneS
          dsimp only
          rw [if_neg hc, if_pos (.inl hbr), List.append_nil, List.append_assoc]
        · dsimp only
          rw [hds, List.length_append]; omega
      refine zl_pureL rfl ?_
      refine z_fa (want_L rfl) (by decide) rfl ?_
      refine z_loadB (want_L rfl) (by decide) rfl (by assumption) (by rfl) ?_
      refine z_eqL (r := nHr) (by first | exact want_none | exact want_L rfl) (by decide) rfl rfl (fun hhr => ?_) (fun hhr => ?_)
      · iterate 2 (refine zl_pureL rfl ?_)
        iterate 3 (refine zl_skip rfl ?_)
        refine zl_pureL rfl ?_
        refine zl_nil ?_
        refine zk_seq ?_
        refine zc_true rfl ?_
        refine zc_exit ?_
        refine zk_exit_then ?_
        refine zk_exit_block ?_
        refine zk_seq ?_
        refine zc_region ?_
        refine zl_pureL rfl ?_
        refine z_add want_none (by decide) rfl rfl (by omega) (by omega) ?_
        refine zl_pureL rfl ?_
        refine zl_nil ?_
        refine zk_loopW (i + 1, out ++ openS nm at') ⟨by omega, ?_, ?_, hCu.no hX2⟩ (by show t.len - (i + 1) < t.len - i; omega) ⟨rfl, rfl, get_int rfl (by simp), trivial⟩
        · dsimp only
          rw [← hd]
          unfold oneS
          dsimp only
          rw [if_neg hc, if_pos (.inr (.inl hhr)), List.append_nil, List.append_assoc]
        · dsimp only
          rw [hds, List.length_append]; omega
      iterate 2 (refine zl_pureL rfl ?_)
      refine z_fa (want_L rfl) (by decide) rfl ?_
      refine z_loadB (want_L rfl) (by decide) rfl (by assumption) (by rfl) ?_
      refine z_eqL (r := nImg) (by first | exact want_none | exact want_L rfl) (by decide) rfl rfl (fun him => ?_) (fun him => ?_)
      · refine zl_pureL rfl ?_
        refine zl_nil ?_
        refine zk_seq ?_
        refine zc_true rfl ?_
        refine zc_exit ?_
        refine zk_exit_then ?_
        refine zk_exit_block ?_
        refine zk_seq ?_
        refine zc_region ?_
        refine zl_pureL rfl ?_
        refine z_add want_none (by decide) rfl rfl (by omega) (by omega) ?_
        refine zl_pureL rfl ?_
        refine zl_nil ?_
        refine zk_loopW (i + 1, out ++ openS nm at') ⟨by omega, ?_, ?_, hCu.no hX2⟩ (by show t.len - (i + 1) < t.len - i; omega) ⟨rfl, rfl, get_int rfl (by simp), trivial⟩
        · dsimp only
          rw [← hd]
          unfold oneS
          dsimp only
          rw [if_neg hc, if_pos (.inr (.inr him)), List.append_nil, List.append_assoc]
        · dsimp only
          rw [hds, List.length_append]; omega
      have hvd : ¬ (nm = nBr ∨ nm = nHr ∨ nm = nImg) := by rintro (h | h | h); exact hbr h; exact hhr h; exact him h
      refine zl_pureL rfl ?_
      refine zl_nil ?_
      refine zk_seq ?_
      refine zc_false rfl ?_
      refine zc_skip ?_
      refine zk_seq ?_
      iterate 2 (refine zc_seq ?_)
      refine zc_region ?_
      refine z_fa want_none (by decide) rfl ?_
      refine z_loadB want_none (by decide) rfl (by assumption) (by rfl) ?_
      refine z_eqL (r := nPre) (by first | exact want_none | exact want_L rfl) (by decide) rfl rfl (fun hpre => ?_) (fun hpre => ?_)
      · by_cases hk0 : k.len = 0
        · have hkf : k.feeds = false := by cases k <;> first | rfl | simp [AT.len] at hk0
          refine zl_pureL rfl ?_
          refine z_fa (want_L rfl) (by decide) rfl ?_
          refine z_loadB (want_L rfl) (by decide) rfl (by assumption) (by rfl) ?_
          refine z_len (want_L rfl) (by decide) rfl ?_
          refine z_cmpB (r := false) (want_L rfl) (by decide) rfl rfl rfl (iff_of_false Bool.false_ne_true (by omega)) ?_
          iterate 2 (refine zl_pureL rfl ?_)
          iterate 6 (refine zl_skip rfl ?_)
          iterate 2 (refine zl_pureL rfl ?_)
          iterate 6 (refine zl_skip rfl ?_)
          refine zl_pureL rfl ?_
          refine zl_nil ?_
          refine zk_seq ?_
          refine zc_false rfl ?_
          refine zc_skip ?_
          refine zk_seq ?_
          refine zc_draw [] (fun w' => w'.cell? ⟨b1, 4, none⟩ = some (.slice A4 k.len c4) ∧ w'.cell? ⟨b1, 0, none⟩ = some (.string (bs nm))) (.take 0 (.take 1 (.take 2 (.take 6 (.take 7 (.all1 3 (.take 4 (.take 5 (.take 8 (.take 9 (.take 10 (.fin)))))))))))) (by rfl) (by kernel_rfl) (by kernel_rfl) (fun z1 hZ1 _ => ⟨?_, ?_⟩)
          · exact ⟨by simpa using (hb2.no hZ1).cell 4, by simpa using (hb2.no hZ1).cell 0⟩
          have hbz := hb2.no hZ1
          refine zs_take rfl (zt_pure rfl ?_)
          refine zs_rdL rfl want_none rfl (by decide) (fun _ hS => r_fa rfl) ?_
          refine zs_rdL rfl want_none rfl (by decide) (fun _ hS => r_load1 rfl hS.1) ?_
          refine zs_rdL rfl want_none rfl (by decide) (fun _ hS => r_fa rfl) ?_
          refine zs_rdL rfl want_none rfl (by decide) (fun _ hS => r_load1 rfl hS.2) ?_
          refine zs_call rfl (by first | exact want_none | exact want_L rfl) rfl (by decide) rfl (ih k (by omega) (hK.no (hX2.no hZ1)) (by rw [hbig]; omega)) ?_
          rintro _ z2 ⟨rfl, hZ2⟩
          have hbz2 := hbz.no hZ2
          refine ⟨_, rfl, ⟨by simpa using hbz2.cell 4, by simpa using hbz2.cell 0⟩, ?_⟩
          iterate 4 (refine zs_rdL rfl want_none rfl (by decide) (fun _ hS => r_catL rfl rfl (by simp only [List.length_append, List.length_cons, List.length_nil]; omega)) ?_)
          refine zs_take rfl (zt_pure rfl ?_)
          refine zs_fin ?_
          refine zk_norm_block ?_
          refine zk_seq ?_
          refine zc_region ?_
          refine zl_pureL rfl ?_
          refine z_add want_none (by decide) rfl rfl (by omega) (by omega) ?_
          refine zl_pureL rfl ?_
          refine zl_nil ?_
          refine zk_loopW (i + 1, out ++ openS nm at' ++ k.text ++ [60, 47] ++ nm ++ [62]) ⟨by omega, ?_, ?_, ((hCu.no hX2).no hZ1).no hZ2⟩ (by show t.len - (i + 1) < t.len - i; omega) ⟨rfl, rfl, get_int rfl (by simp), trivial⟩
          · dsimp only
            rw [← hd]
            unfold oneS
            dsimp only
            rw [if_neg hc, if_neg hvd]
            rw [hkf, if_neg (fun h => by cases h.2)]
            simp only [List.append_assoc, List.nil_append]
          · dsimp only
            rw [hds]; simp only [List.length_append, List.length_cons, List.length_nil]; omega
        · have hkl : 0 < k.len := by omega
          obtain ⟨b5, o5, c5, x5, k5, r5, A5, F5, K5, e5, hv5, hN5, _⟩ := (hK.no hX2).at_ 0 hkl
          cases hv5
          have hc50 : u3.cell? ⟨b5, o5, none⟩ = some (.string (bs x5.name)) := by have := hN5.c0; simpa using this
          have hc52 : u3.cell? ⟨b5, o5 + 2, none⟩ = some (.string (bs x5.text)) := by have := hN5.c2; simpa using this
          have hkf : k.feeds = (decide (x5.name = []) && feedsS x5.text) := by
            have : k = .cons x5 k5 r5 := e5
            rw [this]; rfl
          have hx5 : x5.text.length ≤ k.wt := by
            have : k = .cons x5 k5 r5 := e5
            rw [this]; simp only [AT.wt]; omega
          refine zl_pureL rfl ?_
          refine z_fa (want_L rfl) (by decide) rfl ?_
          refine z_loadB (want_L rfl) (by decide) rfl (by assumption) (by rfl) ?_
          refine z_len (want_L rfl) (by decide) rfl ?_
          refine z_cmpB (r := true) (want_L rfl) (by decide) rfl rfl rfl (iff_of_true rfl (by omega)) ?_
          iterate 2 (refine zl_pureL rfl ?_)
          refine z_fa (want_L rfl) (by decide) rfl ?_
          refine z_loadB (want_L rfl) (by decide) rfl (by assumption) (by rfl) ?_
          refine z_ia (want_L rfl) (by decide) rfl rfl (by omega) (by omega) ?_
          refine z_fa (want_L rfl) (by decide) rfl ?_
          refine z_load1 (want_L rfl) (by decide) rfl (by assumption) ?_
          refine z_eqL (r := []) (by first | exact want_none | exact want_L rfl) (by decide) rfl rfl (fun h5 => ?_) (fun h5 => ?_)
          · iterate 2 (refine zl_pureL rfl ?_)
            refine z_fa (want_L rfl) (by decide) rfl ?_
            refine z_loadB (want_L rfl) (by decide) rfl (by assumption) (by rfl) ?_
            refine z_ia (want_L rfl) (by decide) rfl rfl (by omega) (by omega) ?_
            refine z_fa (want_L rfl) (by decide) rfl ?_
            refine z_load1 (want_L rfl) (by decide) rfl (by assumption) ?_
            refine zl_call (by first | exact want_none | exact want_L rfl) rfl (by decide) rfl (begins_calls x5.text [10] (by rw [hbig]; omega) (by decide)) ?_
            rintro _ uu ⟨rfl, huu⟩
            obtain rfl := huu.symm
            refine ⟨_, rfl, ?_⟩
            rw [begins10]
            by_cases hf : feedsS x5.text = true
            · rw [hf]
              have hkf : k.feeds = true := by rw [hkf, hf, h5]; rfl
              refine zl_pureL rfl ?_
              refine zl_nil ?_
              refine zk_seq ?_
              refine zc_true rfl ?_
              refine zc_region ?_
              refine zl_pureL rfl ?_
              refine z_catL want_none (by decide) rfl rfl (by simp only [List.length_append, List.length_cons, List.length_nil]; omega) ?_
              refine zl_pureL rfl ?_
              refine zl_nil ?_
              refine zk_seq ?_
              refine zc_draw [] (fun w' => w'.cell? ⟨b1, 4, none⟩ = some (.slice (some ⟨b5, o5, none⟩) k.len c4) ∧ w'.cell? ⟨b1, 0, none⟩ = some (.string (bs nm))) (.take 0 (.take 1 (.take 2 (.take 6 (.take 7 (.all1 3 (.take 4 (.take 5 (.take 8 (.take 9 (.take 10 (.fin)))))))))))) (by rfl) (by kernel_rfl) (by kernel_rfl) (fun z1 hZ1 _ => ⟨?_, ?_⟩)
              · exact ⟨by simpa using (hb2.no hZ1).cell 4, by simpa using (hb2.no hZ1).cell 0⟩
              have hbz := hb2.no hZ1
              refine zs_take rfl (zt_pure rfl ?_)
              refine zs_rdL rfl want_none rfl (by decide) (fun _ hS => r_fa rfl) ?_
              refine zs_rdL rfl want_none rfl (by decide) (fun _ hS => r_load1 rfl hS.1) ?_
              refine zs_rdL rfl want_none rfl (by decide) (fun _ hS => r_fa rfl) ?_
              refine zs_rdL rfl want_none rfl (by decide) (fun _ hS => r_load1 rfl hS.2) ?_
              refine zs_call rfl (by first | exact want_none | exact want_L rfl) rfl (by decide) rfl (ih k (by omega) (hK.no (hX2.no hZ1)) (by rw [hbig]; omega)) ?_
              rintro _ z2 ⟨rfl, hZ2⟩
              have hbz2 := hbz.no hZ2
              refine ⟨_, rfl, ⟨by simpa using hbz2.cell 4, by simpa using hbz2.cell 0⟩, ?_⟩
              iterate 4 (refine zs_rdL rfl want_none rfl (by decide) (fun _ hS => r_catL rfl rfl (by simp only [List.length_append, List.length_cons, List.length_nil]; omega)) ?_)
              refine zs_take rfl (zt_pure rfl ?_)
              refine zs_fin ?_
              refine zk_norm_block ?_
              refine zk_seq ?_
              refine zc_region ?_
              refine zl_pureL rfl ?_
              refine z_add want_none (by decide) rfl rfl (by omega) (by omega) ?_
              refine zl_pureL rfl ?_
              refine zl_nil ?_
              refine zk_loopW (i + 1, out ++ openS nm at' ++ [10] ++ k.text ++ [60, 47] ++ nm ++ [62]) ⟨by omega, ?_, ?_, ((hCu.no hX2).no hZ1).no hZ2⟩ (by show t.len - (i + 1) < t.len - i; omega) ⟨rfl, rfl, get_int rfl (by simp), trivial⟩
              · dsimp only
                rw [← hd]
                unfold oneS
                dsimp only
                rw [if_neg hc, if_neg hvd]
                rw [if_pos ⟨hpre, hkf⟩]
                simp only [List.append_assoc, List.nil_append]
              · dsimp only
                rw [hds]; simp only [List.length_append, List.length_cons, List.length_nil]; omega
            · have hf0 : feedsS x5.text = false := by simpa using hf
              rw [hf0]
              have hkf : k.feeds = false := by rw [hkf, hf0, Bool.and_false]
              refine zl_pureL rfl ?_
              refine zl_nil ?_
              refine zk_seq ?_
              refine zc_false rfl ?_
              refine zc_skip ?_
              refine zk_seq ?_
              refine zc_draw [] (fun w' => w'.cell? ⟨b1, 4, none⟩ = some (.slice (some ⟨b5, o5, none⟩) k.len c4) ∧ w'.cell? ⟨b1, 0, none⟩ = some (.string (bs nm))) (.take 0 (.take 1 (.take 2 (.take 6 (.take 7 (.all1 3 (.take 4 (.take 5 (.take 8 (.take 9 (.take 10 (.fin)))))))))))) (by rfl) (by kernel_rfl) (by kernel_rfl) (fun z1 hZ1 _ => ⟨?_, ?_⟩)
              · exact ⟨by simpa using (hb2.no hZ1).cell 4, by simpa using (hb2.no hZ1).cell 0⟩
              have hbz := hb2.no hZ1
              refine zs_take rfl (zt_pure rfl ?_)
              refine zs_rdL rfl want_none rfl (by decide) (fun _ hS => r_fa rfl) ?_
              refine zs_rdL rfl want_none rfl (by decide) (fun _ hS => r_load1 rfl hS.1) ?_
              refine zs_rdL rfl want_none rfl (by decide) (fun _ hS => r_fa rfl) ?_
              refine zs_rdL rfl want_none rfl (by decide) (fun _ hS => r_load1 rfl hS.2) ?_
              refine zs_call rfl (by first | exact want_none | exact want_L rfl) rfl (by decide) rfl (ih k (by omega) (hK.no (hX2.no hZ1)) (by rw [hbig]; omega)) ?_
              rintro _ z2 ⟨rfl, hZ2⟩
              have hbz2 := hbz.no hZ2
              refine ⟨_, rfl, ⟨by simpa using hbz2.cell 4, by simpa using hbz2.cell 0⟩, ?_⟩
              iterate 4 (refine zs_rdL rfl want_none rfl (by decide) (fun _ hS => r_catL rfl rfl (by simp only [List.length_append, List.length_cons, List.length_nil]; omega)) ?_)
              refine zs_take rfl (zt_pure rfl ?_)
              refine zs_fin ?_
              refine zk_norm_block ?_
              refine zk_seq ?_
              refine zc_region ?_
              refine zl_pureL rfl ?_
              refine z_add want_none (by decide) rfl rfl (by omega) (by omega) ?_
              refine zl_pureL rfl ?_
              refine zl_nil ?_
              refine zk_loopW (i + 1, out ++ openS nm at' ++ k.text ++ [60, 47] ++ nm ++ [62]) ⟨by omega, ?_, ?_, ((hCu.no hX2).no hZ1).no hZ2⟩ (by show t.len - (i + 1) < t.len - i; omega) ⟨rfl, rfl, get_int rfl (by simp), trivial⟩
              · dsimp only
                rw [← hd]
                unfold oneS
                dsimp only
                rw [if_neg hc, if_neg hvd]
                rw [hkf, if_neg (fun h => by cases h.2)]
                simp only [List.append_assoc, List.nil_append]
              · dsimp only
                rw [hds]; simp only [List.length_append, List.length_cons, List.length_nil]; omega
          · have hkf : k.feeds = false := by rw [hkf, decide_eq_false h5]; rfl
            iterate 2 (refine zl_pureL rfl ?_)
            iterate 6 (refine zl_skip rfl ?_)
            refine zl_pureL rfl ?_
            refine zl_nil ?_
            refine zk_seq ?_
            refine zc_false rfl ?_
            refine zc_skip ?_
            refine zk_seq ?_
            refine zc_draw [] (fun w' => w'.cell? ⟨b1, 4, none⟩ = some (.slice (some ⟨b5, o5, none⟩) k.len c4) ∧ w'.cell? ⟨b1, 0, none⟩ = some (.string (bs nm))) (.take 0 (.take 1 (.take 2 (.take 6 (.take 7 (.all1 3 (.take 4 (.take 5 (.take 8 (.take 9 (.take 10 (.fin)))))))))))) (by rfl) (by kernel_rfl) (by kernel_rfl) (fun z1 hZ1 _ => ⟨?_, ?_⟩)
            · exact ⟨by simpa using (hb2.no hZ1).cell 4, by simpa using (hb2.no hZ1).cell 0⟩
            have hbz := hb2.no hZ1
            refine zs_take rfl (zt_pure rfl ?_)
            refine zs_rdL rfl want_none rfl (by decide) (fun _ hS => r_fa rfl) ?_
            refine zs_rdL rfl want_none rfl (by decide) (fun _ hS => r_load1 rfl hS.1) ?_
            refine zs_rdL rfl want_none rfl (by decide) (fun _ hS => r_fa rfl) ?_
            refine zs_rdL rfl want_none rfl (by decide) (fun _ hS => r_load1 rfl hS.2) ?_
            refine zs_call rfl (by first | exact want_none | exact want_L rfl) rfl (by decide) rfl (ih k (by omega) (hK.no (hX2.no hZ1)) (by rw [hbig]; omega)) ?_
            rintro _ z2 ⟨rfl, hZ2⟩
            have hbz2 := hbz.no hZ2
            refine ⟨_, rfl, ⟨by simpa using hbz2.cell 4, by simpa using hbz2.cell 0⟩, ?_⟩
            iterate 4 (refine zs_rdL rfl want_none rfl (by decide) (fun _ hS => r_catL rfl rfl (by simp only [List.length_append, List.length_cons, List.length_nil]; omega)) ?_)
            refine zs_take rfl (zt_pure rfl ?_)
            refine zs_fin ?_
            refine zk_norm_block ?_
            refine zk_seq ?_
            refine zc_region ?_
            refine zl_pureL rfl ?_
            refine z_add want_none (by decide) rfl rfl (by omega) (by omega) ?_
            refine zl_pureL rfl ?_
            refine zl_nil ?_
            refine zk_loopW (i + 1, out ++ openS nm at' ++ k.text ++ [60, 47] ++ nm ++ [62]) ⟨by omega, ?_, ?_, ((hCu.no hX2).no hZ1).no hZ2⟩ (by show t.len - (i + 1) < t.len - i; omega) ⟨rfl, rfl, get_int rfl (by simp), trivial⟩
            · dsimp only
              rw [← hd]
              unfold oneS
              dsimp only
              rw [if_neg hc, if_neg hvd]
              rw [hkf, if_neg (fun h => by cases h.2)]
              simp only [List.append_assoc, List.nil_append]
            · dsimp only
              rw [hds]; simp only [List.length_append, List.length_cons, List.length_nil]; omega
      · refine zl_pureL rfl ?_
        iterate 4 (refine zl_skip rfl ?_)
        iterate 2 (refine zl_pureL rfl ?_)
        iterate 6 (refine zl_skip rfl ?_)
        iterate 2 (refine zl_pureL rfl ?_)
        iterate 6 (refine zl_skip rfl ?_)
        refine zl_pureL rfl ?_
        refine zl_nil ?_
        refine zk_seq ?_
        refine zc_false rfl ?_
        refine zc_skip ?_
        refine zk_seq ?_
        refine zc_draw [] (fun w' => w'.cell? ⟨b1, 4, none⟩ = some (.slice A4 k.len c4) ∧ w'.cell? ⟨b1, 0, none⟩ = some (.string (bs nm))) (.take 0 (.take 1 (.take 2 (.take 6 (.take 7 (.all1 3 (.take 4 (.take 5 (.take 8 (.take 9 (.take 10 (.fin)))))))))))) (by rfl) (by kernel_rfl) (by kernel_rfl) (fun z1 hZ1 _ => ⟨?_, ?_⟩)
        · exact ⟨by simpa using (hb2.no hZ1).cell 4, by simpa using (hb2.no hZ1).cell 0⟩
        have hbz := hb2.no hZ1
        refine zs_take rfl (zt_pure rfl ?_)
        refine zs_rdL rfl want_none rfl (by decide) (fun _ hS => r_fa rfl) ?_
        refine zs_rdL rfl want_none rfl (by decide) (fun _ hS => r_load1 rfl hS.1) ?_
        refine zs_rdL rfl want_none rfl (by decide) (fun _ hS => r_fa rfl) ?_
        refine zs_rdL rfl want_none rfl (by decide) (fun _ hS => r_load1 rfl hS.2) ?_
        refine zs_call rfl (by first | exact want_none | exact want_L rfl) rfl (by decide) rfl (ih k (by omega) (hK.no (hX2.no hZ1)) (by rw [hbig]; omega)) ?_
        rintro _ z2 ⟨rfl, hZ2⟩
        have hbz2 := hbz.no hZ2
        refine ⟨_, rfl, ⟨by simpa using hbz2.cell 4, by simpa using hbz2.cell 0⟩, ?_⟩
        iterate 4 (refine zs_rdL rfl want_none rfl (by decide) (fun _ hS => r_catL rfl rfl (by simp only [List.length_append, List.length_cons, List.length_nil]; omega)) ?_)
        refine zs_take rfl (zt_pure rfl ?_)
        refine zs_fin ?_
        refine zk_norm_block ?_
        refine zk_seq ?_
        refine zc_region ?_
        refine zl_pureL rfl ?_
        refine z_add want_none (by decide) rfl rfl (by omega) (by omega) ?_
        refine zl_pureL rfl ?_
        refine zl_nil ?_
        refine zk_loopW (i + 1, out ++ openS nm at' ++ k.text ++ [60, 47] ++ nm ++ [62]) ⟨by omega, ?_, ?_, ((hCu.no hX2).no hZ1).no hZ2⟩ (by show t.len - (i + 1) < t.len - i; omega) ⟨rfl, rfl, get_int rfl (by simp), trivial⟩
        · dsimp only
          rw [← hd]
          unfold oneS
          dsimp only
          rw [if_neg hc, if_neg hvd]
          rw [if_neg (fun h => hpre h.1)]
          simp only [List.append_assoc, List.nil_append]
        · dsimp only
          rw [hds]; simp only [List.length_append, List.length_cons, List.length_nil]; omega
end Go.Proofs.Ytbcmiijollpgeaa.T
