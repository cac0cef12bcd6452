import Derived.Test.YtjiehalanklapaaRMove
/- The document's Doc: New, Tree. -/
namespace Go.Proofs.Ytjiehalanklapaa.D
open Go Go.Z Go.Proofs
set_option linter.unusedVariables false
theorem rNew_calls {w : World} : Calls Try.prog 35 [].toArray w fun e w' => ∃ p vn vu vr ms ks, e = .returned (.pointer (some ⟨p, 0, none⟩)) ∧ IsR w' p vn vu vr ms ks rootN ∧ Chg w w' No ∧ ∀ k, fR p vn vu vr ks k → w.heap.size ≤ k := by
  refine calls_zc (n := 7) (f := 35) (fn := Try.f35) Try.func35 rfl rfl (by simp) ?_
  refine zc_seq ?_
  refine zc_region ?_
  refine zl_pureL rfl ?_
  refine zl_nil ?_
  refine zk_seq ?_
  refine zc_seq ?_
  refine zc_region ?_
  refine z_buildE #[.int .i64 1, .int .i64 1, .string ⟨#[]⟩, .slice none 0 0, .string ⟨#[]⟩, .int .i64 0, .slice none 0 0] (by first | exact want_none | exact want_L rfl) (by decide) rfl (by kernel_rfl) ?_
  refine z_bs1 (by first | exact want_none | exact want_L rfl) (by decide) rfl (by rfl) (by rfl) (by decide) (by decide) (fun w1 b1 hN1 => ?_)
  refine z_bs1 (by first | exact want_none | exact want_L rfl) (by decide) rfl (by rfl) (by rfl) (by decide) (by decide) (fun w2 b2 hN2 => ?_)
  refine z_bs1 (by first | exact want_none | exact want_L rfl) (by decide) rfl (by rfl) (by rfl) (by decide) (by decide) (fun w3 b3 hN3 => ?_)
  refine z_buildE #[.slice (some ⟨b1, 0, none⟩) 1 1, .slice (some ⟨b2, 0, none⟩) 1 1, .slice (some ⟨b3, 0, none⟩) 1 1] (by first | exact want_none | exact want_L rfl) (by decide) rfl (by kernel_rfl) ?_
  refine z_box (by first | exact want_none | exact want_L rfl) (by decide) rfl (fun w4 b4 hN4 => ?_)
  refine zl_pureL rfl ?_
  refine zl_nil ?_
  refine zk_seq ?_
  refine zc_ret ?_
  have h1 := hN1.at_
  have h2 := hN2.at_
  have h3 := hN3.at_
  have h4 := hN4.at_
  have hb1 : Blk w1 b1 48 ([.int .i64 1, .int .i64 1, .string ⟨#[]⟩, .slice none 0 0, .string ⟨#[]⟩, .int .i64 0, .slice none 0 0] ++ []) := hN1.blk
  have hb2 : Blk w2 b2 3 ([.int .i64 (-1)] ++ []) := hN2.blk
  have hb3 : Blk w3 b3 35 ([.slice none 0 0] ++ []) := hN3.blk
  have c24 := hN3.chg.no hN4.chg
  have c14 := (hN2.chg).no c24
  have s2 := hN1.chg.size
  have s3 := hN2.chg.size
  have s4 := hN3.chg.size
  refine zk_ret1 (.inr rfl) rfl rfl ⟨b4, _, _, _, [⟨1, 1, ⟨#[]⟩, .slice none 0 0, ⟨#[]⟩, 0, .slice none 0 0⟩], [.slice none 0 0], rfl, ⟨hN4.blk, ?_, ?_, ?_, rfl, rfl, fun i hi => ?_, fun i hi => ?_⟩, (hN1.chg.no c14), ?_⟩
  · exact Own.mk' (junk := []) rfl (Nat.le_refl _) (by decide) (hb1.no c14) rfl (by simp [encN, MN.cells, Value.oneCell'])
  · exact Own.mk' (junk := []) rfl (Nat.le_refl _) (by decide) (hb2.no c24) rfl (by simp [upC, Value.oneCell', rootN])
  · exact Own.mk' (junk := []) rfl (Nat.le_refl _) (by decide) (hb3.no hN4.chg) rfl (by simp [Value.oneCell'])
  · have : i = 0 := by simp [rootN] at hi; omega
    subst this
    exact ⟨⟨rfl, rfl, rfl, AttrS.nil _, rfl, rfl⟩, rfl⟩
  · have : i = 0 := by simp [rootN] at hi; omega
    subst this
    exact ⟨Own.nil, fun k hk => by cases hk⟩
  · rintro k (hk | hk | hk | hk | ⟨i, hi, hk⟩)
    · omega
    · simp only [Value.ownBlock, Option.some.injEq] at hk; omega
    · simp only [Value.ownBlock, Option.some.injEq] at hk; omega
    · simp only [Value.ownBlock, Option.some.injEq] at hk; omega
    · have : i = 0 := by simp at hi; omega
      subst this; cases hk
set_option maxRecDepth 100000 in
set_option maxHeartbeats 16000000 in
theorem rTree_calls {N : List ND} (hW : WF N) (hl : N.length ≤ 100000) : ∀ (f : Nat) {w : World} {p : Nat} {vn vu vr : Value} {ms : List MN} {ks : List Value} (h : IsR w p vn vu vr ms ks N) (n : Nat) (hn : n < N.length) (t : NT), TF N (N.getD n n0).kids t → t.size ≤ f →
    Calls Try.prog 63 [.pointer (some ⟨p, 0, none⟩), .int .i64 n].toArray w fun e w' => ∃ vo, e = .returned vo ∧ TreeOk w' (fun b => w.heap.size ≤ b) (fun _ => True) vo t ∧ Chg w w' No := by
  intro f
  induction f with
  | zero =>
    intro w p vn vu vr ms ks h n hn t ht hf
    have hk0 : (N.getD n n0).kids.length = 0 := by rw [← ht.len]; have := t.len_size; omega
    have ht0 : t = .nil := by cases t with
      | nil => rfl
      | cons x k r => simp [NT.size] at hf
    subst ht0
    obtain ⟨br, or', cr, Ak, ck, hvr, hcr, hks, hck⟩ := h.kd n hn
    have hb := h.blk
    rw [hvr] at hb
    refine calls_zc (n := 59) (f := 63) (fn := Try.f63) Try.func63 rfl rfl (by simp) ?_
    refine zc_seq ?_
    refine zc_region ?_
    refine zl_pureL rfl ?_
    refine zl_nil ?_
    refine zk_seq ?_
    refine zc_seq ?_
    refine zc_region ?_
    refine zl_pureL rfl ?_
    refine zl_nil ?_
    refine zk_seq ?_
    iterate 2 (refine zc_seq ?_)
    refine zc_region ?_
    iterate 2 (refine zl_pureL rfl ?_)
    refine zl_call (by first | exact want_none | exact want_L rfl) rfl (by decide) rfl (rIs_calls h n) ?_
    rintro _ u ⟨rfl, hu⟩
    obtain rfl := hu.symm
    refine ⟨_, rfl, ?_⟩
    rw [decide_eq_true (show isN N n from ⟨by omega, by omega⟩)]
    refine zl_pureL rfl ?_
    refine zl_nil ?_
    refine zk_seq ?_
    refine zc_false rfl ?_
    refine zc_skip ?_
    refine zk_seq ?_
    iterate 2 (refine zc_seq ?_)
    refine zc_region ?_
    refine zl_pureL rfl ?_
    refine zl_nil ?_
    refine zk_seq ?_
    refine zc_block ?_
    refine zc_loopW (ι := Nat) (fun k u => [(0, .pointer (some ⟨p, 0, none⟩)), (1, .int .i64 n), (5, .slice none 0 0), (6, .int .i64 k)]) (fun k u => k = 0 ∧ u = w) (fun k u => k) 0 ⟨rfl, rfl⟩ ?_ ?_
    · exact ⟨rfl, rfl, rfl, rfl, trivial⟩
    rintro k u ⟨rfl, hu⟩
    obtain rfl := hu.symm
    iterate 2 (refine zc_seq ?_)
    refine zc_region ?_
    iterate 3 (refine zl_pureL rfl ?_)
    refine z_fa want_none (by decide) rfl ?_
    refine z_loadB want_none (by decide) rfl (by assumption) (by rfl) ?_
    refine zl_pureL rfl ?_
    refine z_ia want_none (by decide) rfl rfl (by omega) (by omega) ?_
    refine z_load1 (by first | exact want_none | exact want_L rfl) (by decide) rfl (cell_at hcr (by omega)) ?_
    refine z_len want_none (by decide) rfl ?_
    refine z_cmpB (r := false) want_none (by decide) rfl rfl rfl (iff_of_false Bool.false_ne_true (by omega)) ?_
    refine zl_nil ?_
    refine zk_seq ?_
    refine zc_false rfl ?_
    refine zc_exit ?_
    iterate 2 (refine zk_exit_then ?_)
    refine zk_exit_block ?_
    refine zk_seq ?_
    refine zc_seq ?_
    refine zc_region ?_
    iterate 2 (refine zl_pureL rfl ?_)
    refine zl_nil ?_
    refine zk_seq ?_
    refine zc_ret ?_
    exact zk_ret1 (.inr rfl) rfl rfl ⟨_, rfl, TreeOk.nil, Chg.refl _ _⟩
  | succ f ih =>
    intro w p vn vu vr ms ks h n hn t ht hf
    have htl := ht.len
    have hkl := hW.kids_len hn
    obtain ⟨br, or', cr, Ak, ck, hvr, hcr, hks, hck⟩ := h.kd n hn
    have hK := (h.kid n hn).1.rd
    rw [hks] at hK
    have hb := h.blk
    rw [hvr] at hb
    refine calls_zc (n := 59) (f := 63) (fn := Try.f63) Try.func63 rfl rfl (by simp) ?_
    refine zc_seq ?_
    refine zc_region ?_
    refine zl_pureL rfl ?_
    refine zl_nil ?_
    refine zk_seq ?_
    refine zc_seq ?_
    refine zc_region ?_
    refine zl_pureL rfl ?_
    refine zl_nil ?_
    refine zk_seq ?_
    iterate 2 (refine zc_seq ?_)
    refine zc_region ?_
    iterate 2 (refine zl_pureL rfl ?_)
    refine zl_call (by first | exact want_none | exact want_L rfl) rfl (by decide) rfl (rIs_calls h n) ?_
    rintro _ u ⟨rfl, hu⟩
    obtain rfl := hu.symm
    refine ⟨_, rfl, ?_⟩
    rw [decide_eq_true (show isN N n from ⟨by omega, by omega⟩)]
    refine zl_pureL rfl ?_
    refine zl_nil ?_
    refine zk_seq ?_
    refine zc_false rfl ?_
    refine zc_skip ?_
    refine zk_seq ?_
    iterate 2 (refine zc_seq ?_)
    refine zc_region ?_
    refine zl_pureL rfl ?_
    refine zl_nil ?_
    refine zk_seq ?_
    refine zc_block ?_
    refine zc_loopW (ι := Nat × Value × NT) (fun q u => [(0, .pointer (some ⟨p, 0, none⟩)), (1, .int .i64 n), (5, q.2.1), (6, .int .i64 q.1)])
      (fun q u => q.1 ≤ t.len ∧ Out w.heap.size (fun _ => True) u q.2.1 q.2.2 ∧ q.2.2.len = q.1 ∧ q.2.2.app (t.dropN q.1) = t ∧ Chg w u No) (fun q u => t.len - q.1) (0, .slice none 0 0, .nil)
      ⟨Nat.zero_le _, Out.nil, rfl, rfl, Chg.refl _ _⟩ ?_ ?_
    · exact ⟨rfl, rfl, rfl, rfl, trivial⟩
    rintro ⟨i, vo, T⟩ u ⟨hi, hOut, hTl, hd, hC⟩
    dsimp only at hi hOut hTl hd ⊢
    have hbu := hb.no hC
    have hcru := cell_no hC hcr
    by_cases hlt : i < t.len
    · obtain ⟨bk, ok, ck', hvk, _, hck2⟩ := RdS.some hK (by omega)
      cases hvk
      have hcell := cell_no hC (hck2 i _ (intC_get _ i (by omega)))
      have hik : i < (N.getD n n0).kids.length := by omega
      have hdr := ht.drop i
      have hdc : (N.getD n n0).kids.drop i = (N.getD n n0).kids.getD i 0 :: (N.getD n n0).kids.drop (i + 1) := drop_cons 0 _ _ hik
      rw [hdc] at hdr
      have hkn : (N.getD n n0).kids.getD i 0 < N.length := ((hW.kid n _ hn).1 (getD_mem hik)).1
      obtain ⟨nk, hnke⟩ : ∃ nk, nk = (N.getD n n0).kids.getD i 0 := ⟨_, rfl⟩
      rw [← hnke] at hcell hdr hkn
      have hsz := t.drop_size i
      have e1 : ∃ tk tr, t.dropN i = .cons (hdOf (N.getD nk n0)) tk tr ∧ TF N (N.getD nk n0).kids tk := by
        generalize t.dropN i = s at hdr
        cases hdr with
        | cons _ _ tk tr h1 h2 => exact ⟨tk, tr, rfl, h1⟩
      obtain ⟨tk, tr, e1, htk⟩ := e1
      rw [e1] at hsz
      simp only [NT.size] at hsz
      obtain ⟨bn, on, cn, An, hvn, hnd, hAn⟩ := (h.no hC).nd nk hkn
      obtain ⟨A4, c4, rfl, _⟩ := hAn.form
      rw [hvn] at hbu
      iterate 2 (refine zc_seq ?_)
      refine zc_region ?_
      iterate 3 (refine zl_pureL rfl ?_)
      refine z_fa want_none (by decide) rfl ?_
      refine z_loadB want_none (by decide) rfl (by assumption) (by rfl) ?_
      refine zl_pureL rfl ?_
      refine z_ia want_none (by decide) rfl rfl (by omega) (by omega) ?_
      refine z_load1 (by first | exact want_none | exact want_L rfl) (by decide) rfl (cell_at hcru (by omega)) ?_
      refine z_len want_none (by decide) rfl ?_
      refine z_cmpB (r := true) want_none (by decide) rfl rfl rfl (iff_of_true rfl (by omega)) ?_
      refine zl_nil ?_
      refine zk_seq ?_
      refine zc_true rfl ?_
      refine zc_skip ?_
      refine zk_seq ?_
      refine zc_seq ?_
      refine zc_block ?_
      refine zc_seq ?_
      refine zc_draw [17] (fun w' => Chg u w' No ∧ Blk w' p 63 [.slice (some ⟨bn, on, none⟩) N.length cn, vu, .slice (some ⟨br, or', none⟩) N.length cr]) (.take 0 (.take 1 (.take 2 (.take 3 (.take 4 (.take 5 (.take 6 (.take 7 (.take 8 (.take 9 (.take 10 (.take 11 (.take 12 (.take 13 (.take 14 (.take 15 (.all1 16 (.last 17)))))))))))))))))) (by rfl) (by kernel_rfl) (by kernel_rfl) (fun u1 hCu1 _ => ⟨?_, ?_⟩)
      · exact ⟨hCu1, hbu.no hCu1⟩
      iterate 2 (refine zs_take rfl (zt_pure rfl ?_))
      refine zs_rdL rfl want_none rfl (by decide) (fun _ hS => r_fa rfl) ?_
      refine zs_rdL rfl want_none rfl (by decide) (fun _ hS => r_loadB rfl hS.2 (by rfl)) ?_
      iterate 2 (refine zs_take rfl (zt_pure rfl ?_))
      refine zs_rdL rfl want_none rfl (by decide) (fun _ hS => r_fa rfl) ?_
      refine zs_rdL rfl want_none rfl (by decide) (fun _ hS => r_loadB rfl hS.2 (by rfl)) ?_
      refine zs_take rfl (zt_pure rfl ?_)
      refine zs_rdL rfl want_none rfl (by decide) (fun _ hS => r_ia rfl rfl (by omega) (by omega)) ?_
      refine zs_rdL rfl (by first | exact want_none | exact want_L rfl) rfl (by decide) (fun _ hS => r_load1 rfl (cell_at (cell_no hS.1 hcru) (by omega))) ?_
      refine zs_take rfl (zt_pure rfl ?_)
      refine zs_rdL rfl want_none rfl (by decide) (fun _ hS => r_ia rfl rfl (by omega) (by omega)) ?_
      refine zs_rdL rfl (by first | exact want_none | exact want_L rfl) rfl (by decide) (fun _ hS => r_load1 rfl (cell_at (cell_no hS.1 hcell) (by omega))) ?_
      refine zs_rdL rfl want_none rfl (by decide) (fun _ hS => r_ia rfl rfl (by omega) (by omega)) ?_
      refine zs_rdL rfl (by first | exact want_none | exact want_L rfl) rfl (by decide) (fun _ hS => r_loadA rfl rfl ((hnd.no hS.1).agg (by omega))) ?_
      refine zs_alloc rfl (by first | exact want_none | exact want_L rfl) (by decide) (fun u2 b2 hN2 => ?_)
      have hCu2 : Chg u u2 No := hCu1.no hN2.chg
      refine ⟨⟨hCu2, hbu.no hCu2⟩, ?_⟩
      have hb2 : Blk u2 b2 48 [.int .i64 0, .int .i64 0, .string ⟨#[]⟩, .slice none 0 0, .string ⟨#[]⟩, .int .i64 0, .slice none 0 0] := hN2.blk
      refine zs_storeL rfl (by first | exact want_none | exact want_L rfl) rfl rfl rfl (by assumption) (by first | exact Nat.le_refl _ | simp [Value.cells]) (by simp [Value.cells, Value.oneCell']) (fun u3 hU3 => ?_)
      have hb3 : Blk u3 b2 48 [.int .i64 (N.getD nk n0).kind, .int .i64 (N.getD nk n0).space, .string (N.getD nk n0).name, .slice A4 (N.getD nk n0).attrs.length c4, .string (bs (N.getD nk n0).text), .int .i64 0, .slice none 0 0] := hU3.blk
      have hge2 : u.heap.size ≤ b2 := by have := hN2.at_; have := hCu1.size; omega
      have hC3 : Chg u u3 No := hCu2.upd hU3 hge2
      have hA3 : AttrS u3 (.slice A4 (N.getD nk n0).attrs.length c4) (N.getD nk n0).attrs := hAn.no hC3
      have hbu3 := hbu.no hC3
      have hcru3 := cell_no hC3 hcru
      have hcell3 := cell_no hC3 hcell
      refine zk_seq ?_
      refine zc_seq ?_
      refine zc_region ?_
      iterate 3 (refine zl_pureL rfl ?_)
      refine z_fa want_none (by decide) rfl ?_
      refine z_loadB want_none (by decide) rfl (by assumption) (by rfl) ?_
      refine zl_pureL rfl ?_
      refine z_ia want_none (by decide) rfl rfl (by omega) (by omega) ?_
      refine z_load1 (by first | exact want_none | exact want_L rfl) (by decide) rfl (cell_at hcru3 (by omega)) ?_
      refine zl_pureL rfl ?_
      refine z_ia want_none (by decide) rfl rfl (by omega) (by omega) ?_
      refine z_load1 (by first | exact want_none | exact want_L rfl) (by decide) rfl (cell_at hcell3 (by omega)) ?_
      skip
      refine zl_call (by first | exact want_none | exact want_L rfl) rfl (by decide) rfl (ih (h.no (hC.no hC3)) nk hkn tk htk (by omega)) ?_
      rintro _ u4 ⟨v4, rfl, hT4, hC4⟩
      refine ⟨_, rfl, ?_⟩
      obtain ⟨A5, c5, rfl, _⟩ := hT4.at'.form
      have hb4 := hb3.no hC4
      have hs3 := hC3.size
      have hs4 := hC4.size
      have hlt2 := hb3.lt
      refine z_fa want_none (by decide) rfl ?_
      refine z_store (by first | exact want_none | exact want_L rfl) rfl rfl rfl (by assumption) (by first | exact Nat.le_refl _ | simp [Value.cells]) (by simp [Value.cells, Value.oneCell']) (fun u5 hU5 => ?_)
      have hb5 : Blk u5 b2 48 [.int .i64 (N.getD nk n0).kind, .int .i64 (N.getD nk n0).space, .string (N.getD nk n0).name, .slice A4 (N.getD nk n0).attrs.length c4, .string (bs (N.getD nk n0).text), .int .i64 0, .slice A5 tk.len c5] := hU5.blk
      have hC5 : Chg u u5 No := (hC3.no hC4).upd hU5 hge2
      have hT5 := hT4.chg hU5.chg (fun b _ _ hk he => by omega) (fun b cells hk _ he => hk.ne hb4 (by decide) he)
      have ha5 : AttrS u5 (.slice A4 (N.getD nk n0).attrs.length c4) (N.getD nk n0).attrs := hAn.no hC5
      have hOut5 := hOut.no hC5
      have hvlt : ∀ k, vo.ownBlock = some k → k < u.heap.size := fun k hk => by obtain ⟨ms, g1, _, _⟩ := hOut; exact g1.lt hk
      obtain ⟨A0, c0, hv0, hc0⟩ := hOut.form
      obtain ⟨mz, g1, g2, g3⟩ := hOut5
      have hml := Rows.len _ mz (RowsOk.rows _ mz g3)
      have hBu : w.heap.size ≤ u.heap.size := hC.size
      refine zl_nil ?_
      refine zk_seq ?_
      refine zc_region ?_
      refine zl_pureL rfl ?_
      refine z_loadAB want_none (by decide) rfl (by assumption) (by rfl) ?_
      refine z_bs1 (by first | exact want_none | exact want_L rfl) (by decide) rfl (by rfl) (by rfl) (by decide) (by decide) (fun u10 b10 hN10 => ?_)
      have hx9 : HR u5 ⟨(N.getD nk n0).kind, (N.getD nk n0).space, (N.getD nk n0).name, .slice A4 (N.getD nk n0).attrs.length c4, bs (N.getD nk n0).text, 0, .slice A5 tk.len c5⟩ (hdOf (N.getD nk n0)) := ⟨rfl, rfl, rfl, ha5, rfl, rfl⟩
      have hR : RdS u10 48 7 (.slice (some ⟨b10, 0, none⟩) 1 1) 1 (encN [⟨(N.getD nk n0).kind, (N.getD nk n0).space, (N.getD nk n0).name, .slice A4 (N.getD nk n0).attrs.length c4, bs (N.getD nk n0).text, 0, .slice A5 tk.len c5⟩]) := by
        obtain ⟨kz, h1, _, _⟩ := hT5
        exact RdS.node hx9 h1 hN10
      refine z_appendO (by rfl) (by decide) (by first | exact want_none | exact want_L rfl) (by decide) rfl rfl (g1.no hN10.chg) hR (by omega) (by omega) (fun v11 u11 hO11 hC11 hr11 => ?_)
      have hOut11 := Out.push g1 g2 g3 hx9 (by intro hl b hb; trivial)
        (hT5.mono (fun b hb hk => ⟨by omega, fun he => by have := hvlt b he; omega⟩) (fun b hb hk => trivial)) (Nat.le_trans hBu hC5.size) hN10.chg hO11 hC11 hr11
      refine zl_pureL rfl ?_
      refine zl_nil ?_
      refine zk_norm_block ?_
      refine zk_seq ?_
      refine zc_region ?_
      refine zl_pureL rfl ?_
      refine z_add want_none (by decide) rfl rfl (by omega) (by omega) ?_
      refine zl_pureL rfl ?_
      refine zl_nil ?_
      refine zk_loopW (i + 1, v11, T.snoc (hdOf (N.getD nk n0)) tk) ⟨by omega, hOut11, by rw [NT.snoc_len, hTl], ?_, ?_⟩ (by show t.len - (i + 1) < t.len - i; omega) ⟨rfl, rfl, rfl, get_int rfl (by simp), trivial⟩
      · dsimp only
        rw [t.drop_succ i _ tk tr e1, NT.snoc_app, ← e1]; exact hd
      · refine ((hC.trans hC5 (fun _ _ h => h)).no hN10.chg).trans hC11 (fun i hi he => ?_)
        have := g2 i he; omega
    · obtain rfl : i = t.len := by omega
      rw [t.drop_len, NT.app_nil] at hd
      subst hd
      obtain ⟨Ao, co, hvo, _⟩ := hOut.form
      subst hvo
      iterate 2 (refine zc_seq ?_)
      refine zc_region ?_
      iterate 3 (refine zl_pureL rfl ?_)
      refine z_fa want_none (by decide) rfl ?_
      refine z_loadB want_none (by decide) rfl (by assumption) (by rfl) ?_
      refine zl_pureL rfl ?_
      refine z_ia want_none (by decide) rfl rfl (by omega) (by omega) ?_
      refine z_load1 (by first | exact want_none | exact want_L rfl) (by decide) rfl (cell_at hcru (by omega)) ?_
      refine z_len want_none (by decide) rfl ?_
      refine z_cmpB (r := false) want_none (by decide) rfl rfl rfl (iff_of_false Bool.false_ne_true (by omega)) ?_
      refine zl_nil ?_
      refine zk_seq ?_
      refine zc_false rfl ?_
      refine zc_exit ?_
      iterate 2 (refine zk_exit_then ?_)
      refine zk_exit_block ?_
      refine zk_seq ?_
      refine zc_seq ?_
      refine zc_region ?_
      iterate 2 (refine zl_pureL rfl ?_)
      refine zl_nil ?_
      refine zk_seq ?_
      refine zc_ret ?_
      exact zk_ret1 (.inr rfl) rfl rfl ⟨_, rfl, hOut.tree, hC⟩
end Go.Proofs.Ytjiehalanklapaa.D
