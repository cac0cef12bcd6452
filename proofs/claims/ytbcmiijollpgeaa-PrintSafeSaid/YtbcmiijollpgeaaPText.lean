import Derived.Test.YtbcmiijollpgeaaPOpen
/- Articles, as the program writes them. -/
namespace Go.Proofs.Ytbcmiijollpgeaa.T
open Go Go.Z Go.Proofs
set_option linter.unusedVariables false
theorem Blk.sb {w w' : World} {B b b3 : Nat} {l : List UInt8} {cs : List Value} (h : Blk w b3 38 cs) (hB : Bd 58 w B b l) (hc : Chg w w' (Sb w B b)) : Blk w' b3 38 cs := by
  refine h.chg hc (fun hs => ?_)
  rcases hs with hs | ⟨_, cs', h5⟩
  · obtain ⟨p, v, _, hb, _⟩ := hB
    exact h.ne hb (by decide) hs
  · exact h.ne h5 (by decide) rfl
/-- what the writer of a row of arts does -/
def AllC (t : AT) : Prop := ∀ {w0 w : World} {v : Value} {b B : Nat} {l : List UInt8}, TreeAt false w0 v t → Chg w0 w No → Bd 58 w B b l → w0.heap.size ≤ b → w0.heap.size ≤ B → B ≤ w.heap.size → l.length + t.wt ≤ big →
  Calls Try.prog 24 [.pointer (some ⟨b, 0, none⟩), v].toArray w fun e w' => e = .returned (.tuple #[]) ∧ Bd 58 w' B b (l ++ t.text) ∧ Chg w w' (Sb w B b)
def oneS (x : Hd) (k : AT) : List UInt8 := if x.name = [] then safeN false x.text else openS x.name x.attrs ++ (if x.name = nBr ∨ x.name = nHr ∨ x.name = nImg then [] else
      (if x.name = nPre ∧ k.feeds = true then [10] else []) ++ k.text ++ [60, 47] ++ x.name ++ [62])
theorem Sb.no {w w' : World} {B b : Nat} (h : Chg w w' No) : Chg w w' (Sb w B b) := h.mono (fun _ _ h => h.elim)
set_option maxHeartbeats 8000000 in
theorem one_calls {x : Hd} {k : AT} (hk : AllC k) {w0 w : World} {A F K : Value} {b B : Nat} {l : List UInt8} (hA : AttrS false w0 A x.attrs) (hF : isSl F) (hK : TreeAt false w0 K k) (hC : Chg w0 w No) (hB : Bd 58 w B b l) (hb : w0.heap.size ≤ b) (hBs : w0.heap.size ≤ B) (hBw : B ≤ w.heap.size)
    (hl : l.length + (2 * x.name.length + attrsN x.attrs + 6 * x.text.length + 10 + k.wt) ≤ big) :
    Calls Try.prog 39 [.pointer (some ⟨b, 0, none⟩), .agg #[.string (bs x.name), A, .string (bs x.text), F, K]].toArray w fun e w' => e = .returned (.tuple #[]) ∧ Bd 58 w' B b (l ++ oneS x k) ∧ Chg w w' (Sb w B b) := by
  have hbig : big = 1000000000000 := rfl
  rw [hbig] at hl
  obtain ⟨nm, at', tx⟩ := x
  dsimp only at hA hl ⊢
  obtain ⟨A1, c1, rfl, hc1⟩ := hA.form
  obtain ⟨A2, m2, c2, rfl⟩ := hF
  obtain ⟨A3, c3, rfl, hc3⟩ := hK.form
  have hob := open_calls (w := w) nm (hA.no hC) (by rw [hbig]; omega)
  have hsl := safe_len false tx
  have htl := text_len k
  refine calls_zc (n := 67) (f := 39) (fn := Try.f39) Try.func39 rfl rfl (by simp) ?_
  refine zc_seq ?_
  refine zc_region ?_
  refine z_box (by first | exact want_none | exact want_L rfl) (by decide) rfl (fun w1 b3 hN1 => ?_)
  have hb1 : Blk w1 b3 38 [.string (bs nm), .slice A1 at'.length c1, .string (bs tx), .slice A2 m2 c2, .slice A3 k.len c3] := hN1.blk
  have hB1 := hB.no hN1.chg
  have hs1 := hN1.chg.size
  have hC1 := hC.no hN1.chg
  refine zl_nil ?_
  refine zk_seq ?_
  iterate 2 (refine zc_seq ?_)
  refine zc_region ?_
  refine z_fa want_none (by decide) rfl ?_
  refine z_loadB want_none (by decide) rfl (by assumption) (by rfl) ?_
  refine z_eqL (by first | exact want_none | exact want_L rfl) (by decide) rfl rfl (fun hc => ?_) (fun hc => ?_)
  · subst hc
    refine zl_nil ?_
    refine zk_seq ?_
    refine zc_true rfl ?_
    refine zc_seq ?_
    refine zc_draw [] (fun w' => w'.cell? ⟨b3, 2, none⟩ = some (.string (bs tx))) (.take 0 (.take 1 (.take 2 (.take 3 (.take 4 (.all1 5 (.all1 6 (.fin)))))))) (by rfl) (by kernel_rfl) (by kernel_rfl) (fun w2 hC2 _ => ⟨?_, ?_⟩)
    · simpa using (hb1.no hC2).cell 2
    have hb2 := hb1.no hC2
    have hB2 := hB1.no hC2
    have hs2 := hC2.size
    iterate 2 (refine zs_take rfl (zt_pure rfl ?_))
    iterate 2 (refine zs_rdL rfl want_none rfl (by decide) (fun _ hS => r_fa rfl) ?_)
    refine zs_rdL rfl want_none rfl (by decide) (fun _ hS => r_load1 rfl hS) ?_
    refine zs_call rfl (by first | exact want_none | exact want_L rfl) rfl (by decide) rfl (safe_calls tx false (by rw [hbig]; omega)) ?_
    rintro _ w3 ⟨rfl, hC3⟩
    have hb3 := hb2.no hC3
    have hB3 := hB2.no hC3
    have hs3 := hC3.size
    refine ⟨_, rfl, by simpa using hb3.cell 2, ?_⟩
    refine zs_call rfl (by first | exact want_none | exact want_L rfl) rfl (by decide) rfl (ws_calls (safeN false tx) hB3 (by omega) (by omega)) ?_
    rintro _ w4 ⟨rfl, hB4, hC4⟩
    have hb4 := Blk.sb hb3 hB3 hC4
    refine ⟨_, rfl, by simpa using hb4.cell 2, ?_⟩
    refine zs_fin ?_
    refine zk_seq ?_
    refine zc_ret ?_
    refine zk_ret_then ?_
    refine zk_ret0 (.inr rfl) rfl ⟨rfl, by unfold oneS; simpa using hB4, Sb.trans (Sb.no (((hN1.chg).no hC2).no hC3)) hC4⟩
  · have hlo : (openS nm at').length ≤ nm.length + attrsN at' + 2 := by
      have := attrs_len at'
      simp only [openS, List.length_append, List.length_cons, List.length_nil]; omega
    refine zl_nil ?_
    refine zk_seq ?_
    refine zc_false rfl ?_
    refine zc_skip ?_
    refine zk_seq ?_
    refine zc_seq ?_
    refine zc_draw [] (fun w' => w'.cell? ⟨b3, 0, none⟩ = some (.string (bs nm)) ∧ w'.cell? ⟨b3, 1, none⟩ = some (.slice A1 at'.length c1)) (.take 0 (.take 1 (.take 2 (.take 3 (.take 4 (.take 5 (.take 6 (.all1 7 (.all1 8 (.fin)))))))))) (by rfl) (by kernel_rfl) (by kernel_rfl) (fun w2 hX2 _ => ⟨?_, ?_⟩)
    · exact ⟨by simpa using (hb1.no hX2).cell 0, by simpa using (hb1.no hX2).cell 1⟩
    have hb2 := hb1.no hX2
    have hB2 := hB1.no hX2
    have hs2 := hX2.size
    have hC2 := hC1.no hX2
    iterate 2 (refine zs_take rfl (zt_pure rfl ?_))
    iterate 2 (refine zs_rdL rfl want_none rfl (by decide) (fun _ hS => r_fa rfl) ?_)
    refine zs_rdL rfl want_none rfl (by decide) (fun _ hS => r_load1 rfl hS.1) ?_
    refine zs_rdL rfl want_none rfl (by decide) (fun _ hS => r_fa rfl) ?_
    refine zs_rdL rfl want_none rfl (by decide) (fun _ hS => r_load1 rfl hS.2) ?_
    refine zs_call rfl (by first | exact want_none | exact want_L rfl) rfl (by decide) rfl (open_calls (w := w2) nm (hA.no hC2) (by rw [hbig]; omega)) ?_
    rintro _ w3 ⟨rfl, hX3⟩
    have hb3 := hb2.no hX3
    have hB3 := hB2.no hX3
    have hs3 := hX3.size
    refine ⟨_, rfl, ⟨by simpa using hb3.cell 0, by simpa using hb3.cell 1⟩, ?_⟩
    refine zs_call rfl (by first | exact want_none | exact want_L rfl) rfl (by decide) rfl (ws_calls (openS nm at') hB3 (by omega) (by omega)) ?_
    rintro _ w4 ⟨rfl, hB4, hX4⟩
    have hb4 := Blk.sb hb3 hB3 hX4
    have hs4 := hX4.size
    refine ⟨_, rfl, ⟨by simpa using hb4.cell 0, by simpa using hb4.cell 1⟩, ?_⟩
    have hC4 : Chg w0 w4 No := Chg.liftS (hC2.no hX3) hBs hb hX4
    have hS4 : Chg w w4 (Sb w B b) := Sb.trans (Sb.no ((hN1.chg.no hX2).no hX3)) hX4
    refine zs_fin ?_
    refine zk_seq ?_
    iterate 2 (refine zc_seq ?_)
    refine zc_region ?_
    refine z_fa want_none (by decide) rfl ?_
    refine z_loadB want_none (by decide) rfl (by assumption) (by rfl) ?_
    refine zl_nil ?_
    refine zk_seq ?_
    refine zc_block ?_
    iterate 2 (refine zc_seq ?_)
    refine zc_region ?_
    refine z_eqL (r := nBr) (by first | exact want_none | exact want_L rfl) (by decide) rfl rfl (fun hbr => ?_) (fun hbr => ?_)
    · refine zl_pureL rfl ?_
      refine zl_nil ?_
      refine zk_seq ?_
      refine zc_true rfl ?_
      refine zc_skip ?_
      refine zk_seq ?_
      refine zc_true rfl ?_
      refine zc_ret ?_
      refine zk_ret_block ?_
      refine zk_ret_then ?_
      refine zk_ret0 (.inr rfl) rfl ⟨rfl, ?_, hS4⟩
      have e : l ++ oneS ⟨nm, at', tx⟩ k = l ++ openS nm at' := by
        unfold oneS
        dsimp only
        rw [if_neg hc, if_pos (.inl hbr), List.append_nil]
      rw [e]; exact hB4
    refine zl_pureL rfl ?_
    refine zl_nil ?_
    refine zk_seq ?_
    refine zc_false rfl ?_
    refine zc_seq ?_
    refine zc_region ?_
    refine z_eqL (r := nHr) (by first | exact want_none | exact want_L rfl) (by decide) rfl rfl (fun hhr => ?_) (fun hhr => ?_)
    · refine zl_pureL rfl ?_
      refine zl_nil ?_
      refine zk_seq ?_
      refine zc_true rfl ?_
      refine zc_skip ?_
      refine zk_seq ?_
      refine zc_true rfl ?_
      refine zc_ret ?_
      refine zk_ret_block ?_
      refine zk_ret_then ?_
      refine zk_ret0 (.inr rfl) rfl ⟨rfl, ?_, hS4⟩
      have e : l ++ oneS ⟨nm, at', tx⟩ k = l ++ openS nm at' := by
        unfold oneS
        dsimp only
        rw [if_neg hc, if_pos (.inr (.inl hhr)), List.append_nil]
      rw [e]; exact hB4
    refine zl_pureL rfl ?_
    refine zl_nil ?_
    refine zk_seq ?_
    refine zc_false rfl ?_
    refine zc_region ?_
    refine z_eqL (r := nImg) (by first | exact want_none | exact want_L rfl) (by decide) rfl rfl (fun him => ?_) (fun him => ?_)
    · refine zl_pureL rfl ?_
      refine zl_nil ?_
      refine zk_seq ?_
      refine zc_true rfl ?_
      refine zc_ret ?_
      refine zk_ret_block ?_
      refine zk_ret_then ?_
      refine zk_ret0 (.inr rfl) rfl ⟨rfl, ?_, hS4⟩
      have e : l ++ oneS ⟨nm, at', tx⟩ k = l ++ openS nm at' := by
        unfold oneS
        dsimp only
        rw [if_neg hc, if_pos (.inr (.inr him)), List.append_nil]
      rw [e]; exact hB4
    refine zl_pureL rfl ?_
    refine zl_nil ?_
    refine zk_seq ?_
    refine zc_false rfl ?_
    refine zc_seq ?_
    refine zc_region ?_
    refine z_eqL (r := nPre) (by first | exact want_none | exact want_L rfl) (by decide) rfl rfl (fun hpre => ?_) (fun hpre => ?_)
    · by_cases hk0 : k.len = 0
      · have hkf : k.feeds = false := by cases k <;> first | rfl | simp [AT.len] at hk0
        refine zl_pureL rfl ?_
        refine zl_nil ?_
        refine zk_seq ?_
        refine zc_true rfl ?_
        refine zc_seq ?_
        refine zc_region ?_
        refine z_fa want_none (by decide) rfl ?_
        refine z_loadB want_none (by decide) rfl (by assumption) (by rfl) ?_
        refine z_len want_none (by decide) rfl ?_
        refine z_cmpB (r := false) want_none (by decide) rfl rfl rfl (iff_of_false Bool.false_ne_true (by omega)) ?_
        refine zl_pureL rfl ?_
        iterate 6 (refine zl_skip rfl ?_)
        iterate 2 (refine zl_pureL rfl ?_)
        iterate 6 (refine zl_skip rfl ?_)
        refine zl_pureL rfl ?_
        refine zl_nil ?_
        refine zk_seq ?_
        refine zc_false rfl ?_
        refine zc_skip ?_
        refine zk_norm_block ?_
        refine zk_seq ?_
        refine zc_seq ?_
        refine zc_region ?_
        refine zl_pureL rfl ?_
        refine z_fa want_none (by decide) rfl ?_
        refine z_loadB want_none (by decide) rfl (by assumption) (by rfl) ?_
        refine zl_call (by first | exact want_none | exact want_L rfl) rfl (by decide) rfl (hk hK hC4 hB4 hb hBs (by omega) (by rw [hbig]; simp only [List.length_append, List.length_cons, List.length_nil]; omega)) ?_
        rintro _ v1 ⟨rfl, hD1, hE1⟩
        refine ⟨_, rfl, ?_⟩
        have hc1 := Blk.sb hb4 hB4 hE1
        have ht1 := hE1.size
        refine zl_nil ?_
        refine zk_seq ?_
        refine zc_draw [] (fun w' => w'.cell? ⟨b3, 0, none⟩ = some (.string (bs nm))) (.take 0 (.take 1 (.take 2 (.take 3 (.take 4 (.take 5 (.take 6 (.all1 7 (.fin))))))))) (by rfl) (by kernel_rfl) (by kernel_rfl) (fun v2 hE2 _ => ⟨?_, ?_⟩)
        · simpa using (hc1.no hE2).cell 0
        have hc2 := hc1.no hE2
        have hD2 := hD1.no hE2
        have ht2 := hE2.size
        iterate 2 (refine zs_take rfl (zt_pure rfl ?_))
        iterate 2 (refine zs_rdL rfl want_none rfl (by decide) (fun _ hS => r_fa rfl) ?_)
        refine zs_rdL rfl want_none rfl (by decide) (fun _ hS => r_load1 rfl hS) ?_
        iterate 2 (refine zs_rdL rfl want_none rfl (by decide) (fun _ hS => r_catL rfl rfl (by simp only [List.length_append, List.length_cons, List.length_nil]; omega)) ?_)
        refine zs_call rfl (by first | exact want_none | exact want_L rfl) rfl (by decide) rfl (ws_calls ([60, 47] ++ nm ++ [62]) hD2 (by simp only [List.length_append, List.length_cons, List.length_nil]; omega) (by omega)) ?_
        rintro _ v3 ⟨rfl, hD3, hE3⟩
        have hc3 := Blk.sb hc2 hD2 hE3
        refine ⟨_, rfl, by simpa using hc3.cell 0, ?_⟩
        refine zs_fin ?_
        refine zk_ret0 (.inl rfl) rfl ⟨rfl, ?_, Sb.trans hS4 (Sb.trans (hE1.no hE2) hE3)⟩
        have e : l ++ oneS ⟨nm, at', tx⟩ k = (l ++ openS nm at') ++ k.text ++ ([60, 47] ++ nm ++ [62]) := by
          unfold oneS
          dsimp only
          rw [if_neg hc, if_neg (by rintro (h | h | h); exact hbr h; exact hhr h; exact him h)]
          rw [hkf, if_neg (fun h => by cases h.2)]
          simp only [List.append_assoc, List.nil_append]
        rw [e]; exact hD3
      · have hkl : 0 < k.len := by omega
        obtain ⟨b5, o5, c5, x5, k5, r5, A5, F5, K5, e5, hv5, hN5, _⟩ := (hK.no hC4).at_ 0 hkl
        cases hv5
        have hc50 : w4.cell? ⟨b5, o5, none⟩ = some (.string (bs x5.name)) := by have := hN5.c0; simpa using this
        have hc52 : w4.cell? ⟨b5, o5 + 2, none⟩ = some (.string (bs x5.text)) := by have := hN5.c2; simpa using this
        have hkf : k.feeds = (decide (x5.name = []) && feedsS x5.text) := by
          have : k = .cons x5 k5 r5 := e5
          rw [this]; rfl
        refine zl_pureL rfl ?_
        refine zl_nil ?_
        refine zk_seq ?_
        refine zc_true rfl ?_
        refine zc_seq ?_
        refine zc_region ?_
        refine z_fa want_none (by decide) rfl ?_
        refine z_loadB want_none (by decide) rfl (by assumption) (by rfl) ?_
        refine z_len want_none (by decide) rfl ?_
        refine z_cmpB (r := true) want_none (by decide) rfl rfl rfl (iff_of_true rfl (by omega)) ?_
        refine zl_pureL rfl ?_
        refine z_fa (want_L rfl) (by decide) rfl ?_
        refine z_loadB (want_L rfl) (by decide) rfl (by assumption) (by rfl) ?_
        refine z_ia (want_L rfl) (by decide) rfl rfl (by omega) (by omega) ?_
        refine z_fa (want_L rfl) (by decide) rfl ?_
        refine z_load1 (want_L rfl) (by decide) rfl (by assumption) ?_
        refine z_eqL (r := []) (by first | exact want_none | exact want_L rfl) (by decide) rfl rfl (fun h5 => ?_) (fun h5 => ?_)
        · iterate 2 (refine zl_pureL rfl ?_)
          refine z_fa (want_L rfl) (by decide) rfl ?_
          refine z_loadB (want_L rfl) (by decide) rfl (by assumption) (by rfl) ?_
          refine z_ia (want_L rfl) (by decide) rfl rfl (by omega) (by omega) ?_
          refine z_fa (want_L rfl) (by decide) rfl ?_
          refine z_load1 (want_L rfl) (by decide) rfl (by assumption) ?_
          refine zl_call (by first | exact want_none | exact want_L rfl) rfl (by decide) rfl (feeds_calls x5.text) ?_
          rintro _ w5 ⟨rfl, hX5⟩
          refine ⟨_, rfl, ?_⟩
          have hb5 := hb4.no hX5
          have hB5 := hB4.no hX5
          have hs5 := hX5.size
          have hC5 := hC4.no hX5
          have hS5 := hS4.no hX5
          by_cases hf : feedsS x5.text = true
          · rw [hf]
            have hkf : k.feeds = true := by rw [hkf, hf, h5]; rfl
            refine zl_pureL rfl ?_
            refine zl_nil ?_
            refine zk_seq ?_
            refine zc_true rfl ?_
            refine zc_region ?_
            iterate 2 (refine zl_pureL rfl ?_)
            refine z_fa want_none (by decide) rfl ?_
            refine zl_call (by first | exact want_none | exact want_L rfl) rfl (by decide) rfl (wb_calls 10 hB5 (by simp only [List.length_append]; omega) (by omega)) ?_
            rintro _ w6 ⟨rfl, hB6, hX6⟩
            refine ⟨_, rfl, ?_⟩
            have hb6 := Blk.sb hb5 hB5 hX6
            have hs6 := hX6.size
            have hC6 : Chg w0 w6 No := Chg.liftS hC5 hBs hb hX6
            have hS6 := Sb.trans hS5 hX6
            refine zl_nil ?_
            refine zk_norm_block ?_
            refine zk_seq ?_
            refine zc_seq ?_
            refine zc_region ?_
            refine zl_pureL rfl ?_
            refine z_fa want_none (by decide) rfl ?_
            refine z_loadB want_none (by decide) rfl (by assumption) (by rfl) ?_
            refine zl_call (by first | exact want_none | exact want_L rfl) rfl (by decide) rfl (hk hK hC6 hB6 hb hBs (by omega) (by rw [hbig]; simp only [List.length_append, List.length_cons, List.length_nil]; omega)) ?_
            rintro _ v1 ⟨rfl, hD1, hE1⟩
            refine ⟨_, rfl, ?_⟩
            have hc1 := Blk.sb hb6 hB6 hE1
            have ht1 := hE1.size
            refine zl_nil ?_
            refine zk_seq ?_
            refine zc_draw [] (fun w' => w'.cell? ⟨b3, 0, none⟩ = some (.string (bs nm))) (.take 0 (.take 1 (.take 2 (.take 3 (.take 4 (.take 5 (.take 6 (.all1 7 (.fin))))))))) (by rfl) (by kernel_rfl) (by kernel_rfl) (fun v2 hE2 _ => ⟨?_, ?_⟩)
            · simpa using (hc1.no hE2).cell 0
            have hc2 := hc1.no hE2
            have hD2 := hD1.no hE2
            have ht2 := hE2.size
            iterate 2 (refine zs_take rfl (zt_pure rfl ?_))
            iterate 2 (refine zs_rdL rfl want_none rfl (by decide) (fun _ hS => r_fa rfl) ?_)
            refine zs_rdL rfl want_none rfl (by decide) (fun _ hS => r_load1 rfl hS) ?_
            iterate 2 (refine zs_rdL rfl want_none rfl (by decide) (fun _ hS => r_catL rfl rfl (by simp only [List.length_append, List.length_cons, List.length_nil]; omega)) ?_)
            refine zs_call rfl (by first | exact want_none | exact want_L rfl) rfl (by decide) rfl (ws_calls ([60, 47] ++ nm ++ [62]) hD2 (by simp only [List.length_append, List.length_cons, List.length_nil]; omega) (by omega)) ?_
            rintro _ v3 ⟨rfl, hD3, hE3⟩
            have hc3 := Blk.sb hc2 hD2 hE3
            refine ⟨_, rfl, by simpa using hc3.cell 0, ?_⟩
            refine zs_fin ?_
            refine zk_ret0 (.inl rfl) rfl ⟨rfl, ?_, Sb.trans hS6 (Sb.trans (hE1.no hE2) hE3)⟩
            have e : l ++ oneS ⟨nm, at', tx⟩ k = (l ++ openS nm at' ++ [10]) ++ k.text ++ ([60, 47] ++ nm ++ [62]) := by
              unfold oneS
              dsimp only
              rw [if_neg hc, if_neg (by rintro (h | h | h); exact hbr h; exact hhr h; exact him h)]
              rw [if_pos ⟨hpre, hkf⟩]
              simp only [List.append_assoc, List.nil_append]
            rw [e]; exact hD3
          · have hf0 : feedsS x5.text = false := by simpa using hf
            rw [hf0]
            have hkf : k.feeds = false := by rw [hkf, hf0, Bool.and_false]
            refine zl_pureL rfl ?_
            refine zl_nil ?_
            refine zk_seq ?_
            refine zc_false rfl ?_
            refine zc_skip ?_
            refine zk_norm_block ?_
            refine zk_seq ?_
            refine zc_seq ?_
            refine zc_region ?_
            refine zl_pureL rfl ?_
            refine z_fa want_none (by decide) rfl ?_
            refine z_loadB want_none (by decide) rfl (by assumption) (by rfl) ?_
            refine zl_call (by first | exact want_none | exact want_L rfl) rfl (by decide) rfl (hk hK hC5 hB5 hb hBs (by omega) (by rw [hbig]; simp only [List.length_append, List.length_cons, List.length_nil]; omega)) ?_
            rintro _ v1 ⟨rfl, hD1, hE1⟩
            refine ⟨_, rfl, ?_⟩
            have hc1 := Blk.sb hb5 hB5 hE1
            have ht1 := hE1.size
            refine zl_nil ?_
            refine zk_seq ?_
            refine zc_draw [] (fun w' => w'.cell? ⟨b3, 0, none⟩ = some (.string (bs nm))) (.take 0 (.take 1 (.take 2 (.take 3 (.take 4 (.take 5 (.take 6 (.all1 7 (.fin))))))))) (by rfl) (by kernel_rfl) (by kernel_rfl) (fun v2 hE2 _ => ⟨?_, ?_⟩)
            · simpa using (hc1.no hE2).cell 0
            have hc2 := hc1.no hE2
            have hD2 := hD1.no hE2
            have ht2 := hE2.size
            iterate 2 (refine zs_take rfl (zt_pure rfl ?_))
            iterate 2 (refine zs_rdL rfl want_none rfl (by decide) (fun _ hS => r_fa rfl) ?_)
            refine zs_rdL rfl want_none rfl (by decide) (fun _ hS => r_load1 rfl hS) ?_
            iterate 2 (refine zs_rdL rfl want_none rfl (by decide) (fun _ hS => r_catL rfl rfl (by simp only [List.length_append, List.length_cons, List.length_nil]; omega)) ?_)
            refine zs_call rfl (by first | exact want_none | exact want_L rfl) rfl (by decide) rfl (ws_calls ([60, 47] ++ nm ++ [62]) hD2 (by simp only [List.length_append, List.length_cons, List.length_nil]; omega) (by omega)) ?_
            rintro _ v3 ⟨rfl, hD3, hE3⟩
            have hc3 := Blk.sb hc2 hD2 hE3
            refine ⟨_, rfl, by simpa using hc3.cell 0, ?_⟩
            refine zs_fin ?_
            refine zk_ret0 (.inl rfl) rfl ⟨rfl, ?_, Sb.trans hS5 (Sb.trans (hE1.no hE2) hE3)⟩
            have e : l ++ oneS ⟨nm, at', tx⟩ k = (l ++ openS nm at') ++ k.text ++ ([60, 47] ++ nm ++ [62]) := by
              unfold oneS
              dsimp only
              rw [if_neg hc, if_neg (by rintro (h | h | h); exact hbr h; exact hhr h; exact him h)]
              rw [hkf, if_neg (fun h => by cases h.2)]
              simp only [List.append_assoc, List.nil_append]
            rw [e]; exact hD3
        · have hkf : k.feeds = false := by rw [hkf, decide_eq_false h5]; rfl
          iterate 2 (refine zl_pureL rfl ?_)
          iterate 6 (refine zl_skip rfl ?_)
          refine zl_pureL rfl ?_
          refine zl_nil ?_
          refine zk_seq ?_
          refine zc_false rfl ?_
          refine zc_skip ?_
          refine zk_norm_block ?_
          refine zk_seq ?_
          refine zc_seq ?_
          refine zc_region ?_
          refine zl_pureL rfl ?_
          refine z_fa want_none (by decide) rfl ?_
          refine z_loadB want_none (by decide) rfl (by assumption) (by rfl) ?_
          refine zl_call (by first | exact want_none | exact want_L rfl) rfl (by decide) rfl (hk hK hC4 hB4 hb hBs (by omega) (by rw [hbig]; simp only [List.length_append, List.length_cons, List.length_nil]; omega)) ?_
          rintro _ v1 ⟨rfl, hD1, hE1⟩
          refine ⟨_, rfl, ?_⟩
          have hc1 := Blk.sb hb4 hB4 hE1
          have ht1 := hE1.size
          refine zl_nil ?_
          refine zk_seq ?_
          refine zc_draw [] (fun w' => w'.cell? ⟨b3, 0, none⟩ = some (.string (bs nm))) (.take 0 (.take 1 (.take 2 (.take 3 (.take 4 (.take 5 (.take 6 (.all1 7 (.fin))))))))) (by rfl) (by kernel_rfl) (by kernel_rfl) (fun v2 hE2 _ => ⟨?_, ?_⟩)
          · simpa using (hc1.no hE2).cell 0
          have hc2 := hc1.no hE2
          have hD2 := hD1.no hE2
          have ht2 := hE2.size
          iterate 2 (refine zs_take rfl (zt_pure rfl ?_))
          iterate 2 (refine zs_rdL rfl want_none rfl (by decide) (fun _ hS => r_fa rfl) ?_)
          refine zs_rdL rfl want_none rfl (by decide) (fun _ hS => r_load1 rfl hS) ?_
          iterate 2 (refine zs_rdL rfl want_none rfl (by decide) (fun _ hS => r_catL rfl rfl (by simp only [List.length_append, List.length_cons, List.length_nil]; omega)) ?_)
          refine zs_call rfl (by first | exact want_none | exact want_L rfl) rfl (by decide) rfl (ws_calls ([60, 47] ++ nm ++ [62]) hD2 (by simp only [List.length_append, List.length_cons, List.length_nil]; omega) (by omega)) ?_
          rintro _ v3 ⟨rfl, hD3, hE3⟩
          have hc3 := Blk.sb hc2 hD2 hE3
          refine ⟨_, rfl, by simpa using hc3.cell 0, ?_⟩
          refine zs_fin ?_
          refine zk_ret0 (.inl rfl) rfl ⟨rfl, ?_, Sb.trans hS4 (Sb.trans (hE1.no hE2) hE3)⟩
          have e : l ++ oneS ⟨nm, at', tx⟩ k = (l ++ openS nm at') ++ k.text ++ ([60, 47] ++ nm ++ [62]) := by
            unfold oneS
            dsimp only
            rw [if_neg hc, if_neg (by rintro (h | h | h); exact hbr h; exact hhr h; exact him h)]
            rw [hkf, if_neg (fun h => by cases h.2)]
            simp only [List.append_assoc, List.nil_append]
          rw [e]; exact hD3
    · refine zl_pureL rfl ?_
      refine zl_nil ?_
      refine zk_seq ?_
      refine zc_false rfl ?_
      refine zc_skip ?_
      refine zk_norm_block ?_
      refine zk_seq ?_
      refine zc_seq ?_
      refine zc_region ?_
      refine zl_pureL rfl ?_
      refine z_fa want_none (by decide) rfl ?_
      refine z_loadB want_none (by decide) rfl (by assumption) (by rfl) ?_
      refine zl_call (by first | exact want_none | exact want_L rfl) rfl (by decide) rfl (hk hK hC4 hB4 hb hBs (by omega) (by rw [hbig]; simp only [List.length_append, List.length_cons, List.length_nil]; omega)) ?_
      rintro _ v1 ⟨rfl, hD1, hE1⟩
      refine ⟨_, rfl, ?_⟩
      have hc1 := Blk.sb hb4 hB4 hE1
      have ht1 := hE1.size
      refine zl_nil ?_
      refine zk_seq ?_
      refine zc_draw [] (fun w' => w'.cell? ⟨b3, 0, none⟩ = some (.string (bs nm))) (.take 0 (.take 1 (.take 2 (.take 3 (.take 4 (.take 5 (.take 6 (.all1 7 (.fin))))))))) (by rfl) (by kernel_rfl) (by kernel_rfl) (fun v2 hE2 _ => ⟨?_, ?_⟩)
      · simpa using (hc1.no hE2).cell 0
      have hc2 := hc1.no hE2
      have hD2 := hD1.no hE2
      have ht2 := hE2.size
      iterate 2 (refine zs_take rfl (zt_pure rfl ?_))
      iterate 2 (refine zs_rdL rfl want_none rfl (by decide) (fun _ hS => r_fa rfl) ?_)
      refine zs_rdL rfl want_none rfl (by decide) (fun _ hS => r_load1 rfl hS) ?_
      iterate 2 (refine zs_rdL rfl want_none rfl (by decide) (fun _ hS => r_catL rfl rfl (by simp only [List.length_append, List.length_cons, List.length_nil]; omega)) ?_)
      refine zs_call rfl (by first | exact want_none | exact want_L rfl) rfl (by decide) rfl (ws_calls ([60, 47] ++ nm ++ [62]) hD2 (by simp only [List.length_append, List.length_cons, List.length_nil]; omega) (by omega)) ?_
      rintro _ v3 ⟨rfl, hD3, hE3⟩
      have hc3 := Blk.sb hc2 hD2 hE3
      refine ⟨_, rfl, by simpa using hc3.cell 0, ?_⟩
      refine zs_fin ?_
      refine zk_ret0 (.inl rfl) rfl ⟨rfl, ?_, Sb.trans hS4 (Sb.trans (hE1.no hE2) hE3)⟩
      have e : l ++ oneS ⟨nm, at', tx⟩ k = (l ++ openS nm at') ++ k.text ++ ([60, 47] ++ nm ++ [62]) := by
        unfold oneS
        dsimp only
        rw [if_neg hc, if_neg (by rintro (h | h | h); exact hbr h; exact hhr h; exact him h)]
        rw [if_neg (fun h => hpre h.1)]
        simp only [List.append_assoc, List.nil_append]
      rw [e]; exact hD3
theorem drop_text (t : AT) (i : Nat) (x : Hd) (k r : AT) (h : t.dropN i = .cons x k r) : (t.dropN i).text = oneS x k ++ (t.dropN (i + 1)).text := by
  rw [t.drop_succ i x k r h, h]; rfl
theorem len_wt : ∀ t : AT, t.len ≤ t.wt
  | .nil => Nat.le_refl _
  | .cons x k r => by have := len_wt r; simp only [AT.len, AT.wt]; omega
set_option maxHeartbeats 4000000 in
theorem all_calls : ∀ (f : Nat) (t : AT), t.size ≤ f → AllC t := by
  intro f
  have hbig : big = 1000000000000 := rfl
  induction f with
  | zero =>
    intro t hs w0 w v b B l h hC hB hb hBs hBw hl
    cases t with
    | cons x k r => simp [AT.size] at hs
    | nil =>
      obtain ⟨A, c, rfl, hc⟩ := h.form
      refine calls_zc (n := 19) (f := 24) (fn := Try.f24) Try.func24 rfl rfl (by simp) ?_
      refine zc_seq ?_
      refine zc_region ?_
      refine zl_pureL rfl ?_
      refine z_makeFunc (by first | exact want_none | exact want_L rfl) (by decide) rfl ?_
      refine zl_pureL rfl ?_
      refine zl_nil ?_
      refine zk_seq ?_
      refine zc_seq ?_
      refine zc_region ?_
      refine zl_pureL rfl ?_
      refine z_len want_none (by decide) rfl ?_
      refine zl_pureL rfl ?_
      refine zl_nil ?_
      refine zk_seq ?_
      refine zc_block ?_
      refine zc_loopW (ι := Nat) (fun i u => [(9, .slice A 0 c), (10, .int .i64 0), (11, .int .i64 0)]) (fun i u => u = w) (fun i u => 0) 0 rfl ?_ ?_
      · exact ⟨rfl, rfl, rfl, trivial⟩
      rintro i u rfl
      refine zc_seq ?_
      refine zc_region ?_
      refine z_cmpB (r := false) want_none (by decide) rfl rfl rfl (iff_of_false Bool.false_ne_true (by omega)) ?_
      refine zl_nil ?_
      refine zk_seq ?_
      refine zc_seq ?_
      refine zc_false rfl ?_
      refine zc_exit ?_
      iterate 2 (refine zk_exit_then ?_)
      refine zk_exit_block ?_
      exact zk_ret0 (.inl rfl) rfl ⟨rfl, by simpa [AT.text] using hB, Chg.refl _ _⟩
  | succ f ih =>
    intro t hs w0 w v b B l h hC hB hb hBs hBw hl
    obtain ⟨A, c, hv, hc⟩ := h.form
    have hls := t.len_size
    have hlw := len_wt t
    subst hv
    rw [hbig] at hl
    refine calls_zc (n := 19) (f := 24) (fn := Try.f24) Try.func24 rfl rfl (by simp) ?_
    refine zc_seq ?_
    refine zc_region ?_
    refine zl_pureL rfl ?_
    refine z_makeFunc (by first | exact want_none | exact want_L rfl) (by decide) rfl ?_
    refine zl_pureL rfl ?_
    refine zl_nil ?_
    refine zk_seq ?_
    refine zc_seq ?_
    refine zc_region ?_
    refine zl_pureL rfl ?_
    refine z_len want_none (by decide) rfl ?_
    refine zl_pureL rfl ?_
    refine zl_nil ?_
    refine zk_seq ?_
    refine zc_block ?_
    refine zc_loopW (ι := Nat × List UInt8) (fun q u => [(4, .func (.func 39) #[.pointer (some ⟨b, 0, none⟩)] #[]), (9, .slice A t.len c), (10, .int .i64 t.len), (11, .int .i64 q.1)])
      (fun q u => q.1 ≤ t.len ∧ Bd 58 u B b (l ++ q.2) ∧ q.2 ++ (t.dropN q.1).text = t.text ∧ q.2.length + (t.dropN q.1).wt ≤ t.wt ∧ Chg w0 u No ∧ Chg w u (Sb w B b)) (fun q u => t.len - q.1) (0, []) ⟨Nat.zero_le _, by simpa using hB, rfl, by simp [AT.dropN], hC, Chg.refl _ _⟩ ?_ ?_
    · exact ⟨rfl, rfl, rfl, rfl, trivial⟩
    rintro ⟨i, out⟩ u ⟨hi, hB1, hd, hw, hCu, hSu⟩
    dsimp only at hi hB1 hd hw hCu hSu ⊢
    have hsu := hSu.size
    by_cases hlt : i < t.len
    · obtain ⟨b', o, c', x, k, r, A', F, K, e1, hv, hN, hA, hF, hK⟩ := h.at_ i hlt
      cases hv
      have hN := hN.no hCu
      have hsz := t.drop_size i
      have hdt := drop_text t i x k r e1
      rw [hdt] at hd
      rw [e1] at hsz hw
      simp only [AT.size, AT.wt] at hsz hw
      have hds := t.drop_succ i x k r e1
      obtain ⟨A2, c2, rfl, _⟩ := hA.form
      obtain ⟨A3, m3, c3, rfl⟩ := hF
      obtain ⟨A4, c4, rfl, _⟩ := hK.form
      refine zc_seq ?_
      refine zc_region ?_
      refine z_cmpB (r := true) want_none (by decide) rfl rfl rfl (iff_of_true rfl (by omega)) ?_
      refine zl_nil ?_
      refine zk_seq ?_
      refine zc_seq ?_
      refine zc_true rfl ?_
      refine zc_skip ?_
      refine zk_seq ?_
      refine zc_seq ?_
      refine zc_block ?_
      refine zc_seq ?_
      refine zc_region ?_
      refine z_ia want_none (by decide) rfl rfl (by omega) (by omega) ?_
      refine z_loadA (by rfl) (by first | exact want_none | exact want_L rfl) (by decide) rfl (hN.agg (by omega)) ?_
      refine z_alloc (by first | exact want_none | exact want_L rfl) (by decide) (fun u1 b1 hN1 => ?_)
      have hb1 : Blk u1 b1 38 [.string ⟨#[]⟩, .slice none 0 0, .string ⟨#[]⟩, .slice none 0 0, .slice none 0 0] := hN1.blk
      skip
      refine z_store (by first | exact want_none | exact want_L rfl) rfl rfl rfl (by assumption) (by first | exact Nat.le_refl _ | simp [Value.cells]) (by simp [Value.cells, Value.oneCell']) (fun u2 hU2 => ?_)
      have hb2 : Blk u2 b1 38 [.string (bs x.name), .slice A2 x.attrs.length c2, .string (bs x.text), .slice A3 m3 c3, .slice A4 k.len c4] := hU2.blk
      have hC2 : Chg u u2 No := hN1.chg.upd hU2 (hN1.ge (Chg.refl _ No))
      have hs2 := hC2.size
      refine zl_nil ?_
      refine zk_seq ?_
      refine zc_region ?_
      refine zl_pureL rfl ?_
      refine z_loadAB want_none (by decide) rfl (by assumption) (by rfl) ?_
      have hcall := one_calls (w := u2) (B := B) (b := b) (l := l ++ out) (ih k (by omega)) hA ⟨A3, m3, c3, rfl⟩ hK (hCu.no hC2) (hB1.no hC2) hb hBs (by omega) (by rw [List.length_append, hbig]; omega)
      refine z_callF (us := [.pointer (some ⟨b, 0, none⟩)]) (by first | exact want_none | exact want_L rfl) rfl (by decide) rfl rfl hcall ?_
      rintro _ u3 ⟨rfl, hB3, hX3⟩
      refine ⟨_, rfl, ?_⟩
      have hS3 := Sb.trans (hSu.no hC2) hX3
      refine zl_nil ?_
      refine zk_norm_block ?_
      refine zk_seq ?_
      refine zc_region ?_
      refine z_add want_none (by decide) rfl rfl (by omega) (by omega) ?_
      refine zl_pureL rfl ?_
      refine zl_nil ?_
      have hone : (oneS x k).length ≤ 2 * x.name.length + attrsN x.attrs + 6 * x.text.length + 10 + k.wt := by
        have := text_len (.cons x k .nil)
        have e : (AT.cons x k .nil).text = oneS x k ++ [] := rfl
        rw [e, List.append_nil] at this
        simpa [AT.wt] using this
      refine zk_loopW (i + 1, out ++ oneS x k) ⟨by omega, by rw [← List.append_assoc]; exact hB3, by rw [← hd, List.append_assoc], ?_, Chg.liftS (hCu.no hC2) hBs hb hX3, hS3⟩ (by show t.len - (i + 1) < t.len - i; omega) ⟨rfl, rfl, rfl, get_int rfl (by simp), trivial⟩
      dsimp only
      rw [hds, List.length_append]; omega
    · obtain rfl : i = t.len := by omega
      rw [t.drop_len] at hd
      have hd' : out = t.text := by simpa [AT.text] using hd
      subst hd'
      refine zc_seq ?_
      refine zc_region ?_
      refine z_cmpB (r := false) want_none (by decide) rfl rfl rfl (iff_of_false Bool.false_ne_true (by omega)) ?_
      refine zl_nil ?_
      refine zk_seq ?_
      refine zc_seq ?_
      refine zc_false rfl ?_
      refine zc_exit ?_
      iterate 2 (refine zk_exit_then ?_)
      refine zk_exit_block ?_
      exact zk_ret0 (.inl rfl) rfl ⟨rfl, hB1, hSu⟩
set_option maxHeartbeats 4000000 in
theorem text_calls {w : World} {v : Value} {t : AT} (h : TreeAt false w v t) (hl : t.wt ≤ big) : Calls Try.prog 10 [v].toArray w fun e w' => e = .returned (.string (bs t.text)) ∧ Chg w w' No := by
  have hbig : big = 1000000000000 := rfl
  obtain ⟨A, c, rfl, hc⟩ := h.form
  refine calls_zc (n := 13) (f := 10) (fn := Try.f10) Try.func10 rfl rfl (by simp) ?_
  refine zc_seq ?_
  refine zc_region ?_
  refine zl_pureL rfl ?_
  refine zl_nil ?_
  refine zk_seq ?_
  refine zc_seq ?_
  refine zc_region ?_
  refine z_buildE #[.pointer none, .slice none 0 0] (by first | exact want_none | exact want_L rfl) (by decide) rfl (by kernel_rfl) ?_
  refine z_box (by first | exact want_none | exact want_L rfl) (by decide) rfl (fun w1 b1 hN1 => ?_)
  have hb1 : w.heap.size = b1 := hN1.at_.symm
  have hlt1 : b1 < w1.heap.size := hN1.blk.lt
  have hB1 : Bd 58 w1 (b1 + 1) b1 [] := Bd.fresh hN1.blk
  refine zl_pureL rfl ?_
  refine zl_nil ?_
  refine zk_seq ?_
  refine zc_seq ?_
  refine zc_region ?_
  iterate 2 (refine zl_pureL rfl ?_)
  refine zl_call (by first | exact want_none | exact want_L rfl) rfl (by decide) rfl (all_calls t.size t (Nat.le_refl _) h hN1.chg hB1 (by omega) (by omega) (by omega) (by simpa using hl)) ?_
  rintro _ w2 ⟨rfl, hB2, hX2⟩
  refine ⟨_, rfl, ?_⟩
  rw [List.nil_append] at hB2
  have hs2 := hX2.size
  refine zl_nil ?_
  refine zk_seq ?_
  refine zc_seq ?_
  refine zc_region ?_
  iterate 2 (refine zl_pureL rfl ?_)
  refine z_fa want_none (by decide) rfl ?_
  refine zl_call (by first | exact want_none | exact want_L rfl) rfl (by decide) rfl (str_calls hB2 (by omega)) ?_
  rintro _ w3 ⟨rfl, hX3⟩
  refine ⟨_, rfl, ?_⟩
  refine zl_pureL rfl ?_
  refine zl_nil ?_
  refine zk_seq ?_
  refine zc_ret ?_
  exact zk_ret1 (.inr rfl) rfl rfl ⟨rfl, Chg.liftS (Chg.liftS hN1.chg (by omega) (by omega) hX2) (by omega) (by omega) hX3⟩
end Go.Proofs.Ytbcmiijollpgeaa.T
