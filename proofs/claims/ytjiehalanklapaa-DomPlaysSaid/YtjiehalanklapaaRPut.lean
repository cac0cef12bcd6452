import Derived.Test.YtjiehalanklapaaRSet
/- The document's Doc: Elem, Note, Put. -/
namespace Go.Proofs.Ytjiehalanklapaa.D
open Go Go.Z Go.Proofs
set_option linter.unusedVariables false
/-- a row of numbers that is made since a heap of size W -/
def FO (W : Nat) (w : World) (v : Value) (m : Nat) (cs : List Value) : Prop := Own w 3 1 v m cs ∧ ∀ k, v.ownBlock = some k → W ≤ k
section
variable {W m m' : Nat} {w w' w0 : World} {v v' : Value} {cs cs' : List Value}
theorem FO.no (h : FO W w v m cs) (hc : Chg w w' No) : FO W w' v m cs := ⟨h.1.no hc, h.2⟩
theorem FO.grow (h : FO W w v m cs) (hW : W ≤ w.heap.size) (hO : Own w' 3 1 v' m' cs') (hr : v'.ownBlock = v.ownBlock ∨ ∃ k, v'.ownBlock = some k ∧ w.heap.size ≤ k) : FO W w' v' m' cs' := ⟨hO, fun k hk => by
  rcases hr with e | ⟨j, e, e2⟩
  · exact h.2 k (e ▸ hk)
  · rw [hk] at e; cases e; omega⟩
theorem FO.ch (h : FO w0.heap.size w v m cs) (h0 : Chg w0 w No) (hc : Chg w w' (fun k => v.ownBlock = some k)) : Chg w0 w' No := h0.trans hc (fun k hk he => by have := h.2 k he; omega)
theorem FO.rd (h : FO W w v m cs) (hc : Chg w w' (fun k => v.ownBlock = some k)) {x : Value} {n : Nat} {xs : List Value} (hr : RdS w 3 1 x n xs) (hne : ∀ k, v.ownBlock = some k → x.ownBlock ≠ some k) : RdS w' 3 1 x n xs := RdS.chgAt hr hc (fun _ b _ hb _ he => hne b he hb)
theorem insK_len (K : List Nat) (a n : Nat) (h : a ≤ K.length) : (insK K a n).length = K.length + 1 := by unfold insK; simp; omega
end
section
variable {w : World} {p : Nat} {vn vu vr va : Value} {ms : List MN} {ks : List Value} {N : List ND}
theorem rElem'_calls (h : IsR w p vn vu vr ms ks N) (hl : N.length ≤ 100000) (sp : Int) (nm : ByteArray) {l : List At} (ha : AttrS w va l) (hal : l.length ≤ 100000) :
    Calls Try.prog 57 [.pointer (some ⟨p, 0, none⟩), .int .i64 sp, .string nm, va].toArray w fun e w' => e = .returned (.int .i64 N.length) ∧ ∃ vn' vu' vr' ms' ks', IsR w' p vn' vu' vr' ms' ks' (N ++ [⟨1, sp, nm, l, [], -1, []⟩]) ∧ WrR w w' p vn vu vr ks vn' vu' vr' ks' := by
  obtain ⟨A0, c0, hv0, _⟩ := ha.form
  subst hv0
  refine calls_zc (n := 17) (f := 57) (fn := Try.f57) Try.func57 rfl rfl (by simp) ?_
  refine zc_seq ?_
  refine zc_region ?_
  refine zl_pureL rfl ?_
  refine zl_nil ?_
  refine zk_seq ?_
  refine zc_seq ?_
  refine zc_region ?_
  iterate 3 (refine zl_pureL rfl ?_)
  refine z_bs0 (by first | exact want_none | exact want_L rfl) (by decide) (fun w1 b1 hN1 => ?_)
  have hE1 : Own w1 45 2 (.slice (some ⟨b1, 0, none⟩) 0 0) 0 [] := Own.empty hN1
  refine zl_pureL rfl ?_
  refine z_appendO (by rfl) (by decide) (by first | exact want_none | exact want_L rfl) (by decide) rfl rfl hE1 (RdS.no ha hN1.chg) (by omega) (by omega) (fun v2 w2 hO2 hX2 hr2 => ?_)
  have hC2 : Chg w w2 No := hN1.chg.trans hX2 (fun k hk he => by simp only [Value.ownBlock, Option.some.injEq] at he; have := hN1.at_; omega)
  rw [List.nil_append, Nat.zero_add] at hO2
  have hA2 : AttrS w2 v2 l := hO2.rd
  obtain ⟨A2, c2, rfl, _⟩ := hA2.form
  refine z_buildE #[.int .i64 1, .int .i64 sp, .string nm, .slice A2 l.length c2, .string ⟨#[]⟩, .int .i64 0, .slice none 0 0] (by first | exact want_none | exact want_L rfl) (by decide) rfl (by kernel_rfl) ?_
  skip
  refine zl_call (by first | exact want_none | exact want_L rfl) rfl (by decide) rfl (rLay_calls (h.no hC2) hl ⟨1, sp, nm, l, [], -1, []⟩ rfl rfl hA2) ?_
  rintro _ w3 ⟨rfl, vn', vu', vr', ms', ks', g1, g2⟩
  refine ⟨_, rfl, ?_⟩
  refine zl_pureL rfl ?_
  refine zl_nil ?_
  refine zk_seq ?_
  refine zc_ret ?_
  exact zk_ret1 (.inr rfl) rfl rfl ⟨rfl, _, _, _, _, _, g1, WrR.pre hC2 g2⟩
theorem rNote_calls (h : IsR w p vn vu vr ms ks N) (hl : N.length ≤ 100000) (s : List UInt8) :
    Calls Try.prog 58 [.pointer (some ⟨p, 0, none⟩), .string (bs s)].toArray w fun e w' => e = .returned (.int .i64 N.length) ∧ ∃ vn' vu' vr' ms' ks', IsR w' p vn' vu' vr' ms' ks' (N ++ [⟨3, 0, ⟨#[]⟩, [], s, -1, []⟩]) ∧ WrR w w' p vn vu vr ks vn' vu' vr' ks' := by
  refine calls_zc (n := 9) (f := 58) (fn := Try.f58) Try.func58 rfl rfl (by simp) ?_
  refine zc_seq ?_
  refine zc_region ?_
  refine zl_pureL rfl ?_
  refine zl_nil ?_
  refine zk_seq ?_
  refine zc_seq ?_
  refine zc_region ?_
  iterate 2 (refine zl_pureL rfl ?_)
  refine z_buildE #[.int .i64 3, .int .i64 0, .string ⟨#[]⟩, .slice none 0 0, .string (bs s), .int .i64 0, .slice none 0 0] (by first | exact want_none | exact want_L rfl) (by decide) rfl (by kernel_rfl) ?_
  skip
  refine zl_call (by first | exact want_none | exact want_L rfl) rfl (by decide) rfl (rLay_calls h hl ⟨3, 0, ⟨#[]⟩, [], s, -1, []⟩ rfl rfl (AttrS.nil _)) ?_
  rintro _ w3 ⟨rfl, vn', vu', vr', ms', ks', g1, g2⟩
  refine ⟨_, rfl, ?_⟩
  refine zl_pureL rfl ?_
  refine zl_nil ?_
  refine zk_seq ?_
  refine zc_ret ?_
  exact zk_ret1 (.inr rfl) rfl rfl ⟨rfl, _, _, _, _, _, g1, g2⟩
set_option maxRecDepth 100000 in
set_option maxHeartbeats 8000000 in
theorem rPut_calls (h : IsR w p vn vu vr ms ks N) (hW : WF N) (hl : N.length ≤ 100000) (n up ahead : Int) :
    Calls Try.prog 62 [.pointer (some ⟨p, 0, none⟩), .int .i64 n, .int .i64 up, .int .i64 ahead].toArray w fun e w' => ∃ q ks' N', e = .returned (.bool q) ∧ IsR w' p vn vu vr ms ks' N' ∧ WrR w w' p vn vu vr ks vn vu vr ks' ∧ PutR N n up ahead q N' := by
  have bad : ¬ PutOk N n up ahead → ∃ q ks' N', (Ending.returned (.bool false)) = .returned (.bool q) ∧ IsR w p vn vu vr ms ks' N' ∧ WrR w w p vn vu vr ks vn vu vr ks' ∧ PutR N n up ahead q N' := fun hn => ⟨false, ks, N, rfl, h, WrR.refl _ _ _ _ _ _, fun hh => absurd hh hn, fun _ => ⟨rfl, rfl⟩⟩
  refine calls_zc (n := 83) (f := 62) (fn := Try.f62) Try.func62 rfl rfl (by simp) ?_
  refine zc_seq ?_
  refine zc_region ?_
  refine zl_pureL rfl ?_
  refine zl_nil ?_
  refine zk_seq ?_
  iterate 2 (refine zc_seq ?_)
  refine zc_region ?_
  iterate 2 (refine zl_pureL rfl ?_)
  refine zl_call (by first | exact want_none | exact want_L rfl) rfl (by decide) rfl (rIs_calls h n) ?_
  rintro _ u ⟨rfl, hu⟩
  obtain rfl := hu.symm
  refine ⟨_, rfl, ?_⟩
  by_cases h1 : isN N n
  rotate_left
  · rw [decide_eq_false h1]
    iterate 4 (refine zl_pureL rfl ?_)
    refine zl_skip rfl ?_
    iterate 4 (refine zl_pureL rfl ?_)
    refine zl_skip rfl ?_
    iterate 4 (refine zl_pureL rfl ?_)
    iterate 2 (refine zl_skip rfl ?_)
    refine zl_pureL rfl ?_
    iterate 3 (refine zl_skip rfl ?_)
    iterate 5 (refine zl_pureL rfl ?_)
    refine zl_skip rfl ?_
    refine zl_pureL rfl ?_
    refine zl_nil ?_
    refine zk_seq ?_
    refine zc_true rfl ?_
    refine zc_seq ?_
    refine zc_region ?_
    refine zl_pureL rfl ?_
    refine zl_nil ?_
    refine zk_seq ?_
    refine zc_ret ?_
    refine zk_ret_then ?_
    exact zk_ret1 (.inr rfl) rfl rfl (bad (fun hh => h1 hh.1))
  rw [decide_eq_true h1]
  iterate 4 (refine zl_pureL rfl ?_)
  refine zl_call (by first | exact want_none | exact want_L rfl) rfl (by decide) rfl (rElem_calls h up) ?_
  rintro _ u ⟨rfl, hu⟩
  obtain rfl := hu.symm
  refine ⟨_, rfl, ?_⟩
  by_cases h2 : isN N up ∧ (ndOf N up).kind = 1
  rotate_left
  · rw [decide_eq_false h2]
    iterate 4 (refine zl_pureL rfl ?_)
    refine zl_skip rfl ?_
    iterate 4 (refine zl_pureL rfl ?_)
    iterate 2 (refine zl_skip rfl ?_)
    refine zl_pureL rfl ?_
    iterate 3 (refine zl_skip rfl ?_)
    iterate 5 (refine zl_pureL rfl ?_)
    refine zl_skip rfl ?_
    refine zl_pureL rfl ?_
    refine zl_nil ?_
    refine zk_seq ?_
    refine zc_true rfl ?_
    refine zc_seq ?_
    refine zc_region ?_
    refine zl_pureL rfl ?_
    refine zl_nil ?_
    refine zk_seq ?_
    refine zc_ret ?_
    refine zk_ret_then ?_
    exact zk_ret1 (.inr rfl) rfl rfl (bad (fun hh => h2 ⟨hh.2.1, hh.2.2.1⟩))
  rw [decide_eq_true h2]
  by_cases h3 : n = 0
  · iterate 4 (refine zl_pureL rfl ?_)
    refine z_cmpB (r := true) (want_L rfl) (by decide) rfl rfl rfl (iff_of_true rfl (by omega)) ?_
    iterate 4 (refine zl_pureL rfl ?_)
    iterate 2 (refine zl_skip rfl ?_)
    refine zl_pureL rfl ?_
    iterate 3 (refine zl_skip rfl ?_)
    iterate 5 (refine zl_pureL rfl ?_)
    refine zl_skip rfl ?_
    refine zl_pureL rfl ?_
    refine zl_nil ?_
    refine zk_seq ?_
    refine zc_true rfl ?_
    refine zc_seq ?_
    refine zc_region ?_
    refine zl_pureL rfl ?_
    refine zl_nil ?_
    refine zk_seq ?_
    refine zc_ret ?_
    refine zk_ret_then ?_
    exact zk_ret1 (.inr rfl) rfl rfl (bad (fun hh => hh.2.2.2.1 h3))
  obtain ⟨i, rfl⟩ := Int.eq_ofNat_of_zero_le h1.1
  have hi : i < N.length := by have := h1.2; omega
  obtain ⟨b, o, c, hv, hp⟩ := h.up i hi
  have hb := h.blk
  rw [hv] at hb
  iterate 4 (refine zl_pureL rfl ?_)
  refine z_cmpB (r := false) (want_L rfl) (by decide) rfl rfl rfl (iff_of_false Bool.false_ne_true (by omega)) ?_
  iterate 4 (refine zl_pureL rfl ?_)
  refine z_fa (want_L rfl) (by decide) rfl ?_
  refine z_loadB (want_L rfl) (by decide) rfl (by assumption) (by rfl) ?_
  refine zl_pureL rfl ?_
  refine z_ia (want_L rfl) (by decide) rfl rfl (by omega) (by omega) ?_
  refine z_load1 (by first | exact want_none | exact want_L rfl) (by decide) rfl (cell_at hp (by omega)) ?_
  by_cases h4 : 0 ≤ (N.getD i n0).up
  · refine z_cmpB (r := true) (want_L rfl) (by decide) rfl rfl rfl (iff_of_true rfl (by omega)) ?_
    iterate 5 (refine zl_pureL rfl ?_)
    refine zl_skip rfl ?_
    refine zl_pureL rfl ?_
    refine zl_nil ?_
    refine zk_seq ?_
    refine zc_true rfl ?_
    refine zc_seq ?_
    refine zc_region ?_
    refine zl_pureL rfl ?_
    refine zl_nil ?_
    refine zk_seq ?_
    refine zc_ret ?_
    refine zk_ret_then ?_
    exact zk_ret1 (.inr rfl) rfl rfl (bad (fun hh => by have : (N.getD i n0).up < 0 := hh.2.2.2.2.1; omega))
  obtain ⟨j, rfl⟩ := Int.eq_ofNat_of_zero_le h2.1.1
  have hj : j < N.length := by have := h2.1.2; omega
  have hkj := hW.kids_len hj
  refine z_cmpB (r := false) (want_L rfl) (by decide) rfl rfl rfl (iff_of_false Bool.false_ne_true (by omega)) ?_
  iterate 5 (refine zl_pureL rfl ?_)
  refine zl_call (by first | exact want_none | exact want_L rfl) rfl (by decide) rfl (rBelow_calls h hW j i hj hi) ?_
  rintro _ u ⟨q1, rfl, hq1, hu⟩
  obtain rfl := hu.symm
  refine ⟨_, rfl, ?_⟩
  cases q1
  rotate_left
  · refine zl_pureL rfl ?_
    refine zl_nil ?_
    refine zk_seq ?_
    refine zc_true rfl ?_
    refine zc_seq ?_
    refine zc_region ?_
    refine zl_pureL rfl ?_
    refine zl_nil ?_
    refine zk_seq ?_
    refine zc_ret ?_
    refine zk_ret_then ?_
    exact zk_ret1 (.inr rfl) rfl rfl (bad (fun hh => hh.2.2.2.2.2.1 (hq1.1 rfl)))
  have hna : ¬ Anc N j i := fun ha => absurd (hq1.2 ha) Bool.false_ne_true
  refine zl_pureL rfl ?_
  refine zl_nil ?_
  refine zk_seq ?_
  refine zc_false rfl ?_
  refine zc_skip ?_
  refine zk_seq ?_
  refine zc_seq ?_
  refine zc_region ?_
  iterate 3 (refine zl_pureL rfl ?_)
  refine zl_call (by first | exact want_none | exact want_L rfl) rfl (by decide) rfl (rPlace_calls h hW j hj ahead (by omega)) ?_
  rintro _ u ⟨rfl, hu⟩
  obtain rfl := hu.symm
  refine ⟨_, rfl, ?_⟩
  cases hpl : placeN (N.getD j n0).kids ahead with
  | none =>
    dsimp only [plI]
    refine zl_pureL rfl ?_
    refine zl_nil ?_
    refine zk_seq ?_
    iterate 2 (refine zc_seq ?_)
    refine zc_region ?_
    refine zl_pureL rfl ?_
    refine z_cmpB (r := true) want_none (by decide) rfl rfl rfl (iff_of_true rfl (by omega)) ?_
    refine zl_nil ?_
    refine zk_seq ?_
    refine zc_true rfl ?_
    refine zc_seq ?_
    refine zc_region ?_
    refine zl_pureL rfl ?_
    refine zl_nil ?_
    refine zk_seq ?_
    refine zc_ret ?_
    refine zk_ret_then ?_
    exact zk_ret1 (.inr rfl) rfl rfl (bad (fun hh => by
      have : (placeN (N.getD j n0).kids ahead).isSome = true := hh.2.2.2.2.2.2
      rw [hpl] at this; cases this))
  | some a =>
    have hok : PutOk N i j ahead := ⟨h1, h2.1, h2.2, h3, by show (N.getD i n0).up < 0; omega, hna, by show (placeN (N.getD j n0).kids ahead).isSome = true; rw [hpl]; rfl⟩
    have hal := placeN_le hpl
    dsimp only [plI]
    obtain ⟨br0, cr0, cells0, hvr0, _⟩ := h.row j hj
    obtain ⟨bu0, cu0, cellsu0, hvu0, _⟩ := h.upset i hi
    obtain ⟨br, or', cr, Ak, ck, hvr, hcr, hks, hck⟩ := h.kd j hj
    have hK := (h.kid j hj).1
    rw [hks] at hK
    rw [hvr] at hvr0
    cases hvr0
    rw [hv] at hvu0
    cases hvu0
    rw [hvr] at hb
    subst hv
    subst hvr
    have hij : i ≠ j := fun he => hna (he ▸ Anc.refl i)
    have hlen : 0 + a + 1 + ((N.getD j n0).kids.length - a) = (N.getD j n0).kids.length + 1 := by omega
    refine zl_pureL rfl ?_
    refine zl_nil ?_
    refine zk_seq ?_
    iterate 2 (refine zc_seq ?_)
    refine zc_region ?_
    refine zl_pureL rfl ?_
    refine z_cmpB (r := false) want_none (by decide) rfl rfl rfl (iff_of_false Bool.false_ne_true (by omega)) ?_
    refine zl_nil ?_
    refine zk_seq ?_
    refine zc_false rfl ?_
    refine zc_skip ?_
    refine zk_seq ?_
    refine zc_seq ?_
    refine zc_draw [30] (fun w' => Chg w w' No ∧ Blk w' p 63 [vn, .slice (some ⟨b, 0, none⟩) N.length c, .slice (some ⟨br0, 0, none⟩) N.length cr0]) (.take 0 (.take 1 (.take 2 (.take 3 (.take 4 (.take 6 (.take 7 (.take 8 (.take 9 (.take 10 (.take 11 (.take 12 (.take 13 (.take 14 (.take 16 (.take 19 (.take 20 (.take 21 (.take 22 (.take 23 (.take 24 (.take 25 (.take 26 (.take 27 (.all2 5 (.all2 15 (.all1 17 (.all1 18 (.all1 28 (.take 29 (.last 30))))) 17 (.all1 15 (.all1 18 (.all1 28 (.take 29 (.last 30)))))) 17 (.all1 5 (.all1 15 (.all1 18 (.all1 28 (.take 29 (.last 30))))))))))))))))))))))))))))))) (by rfl) (by kernel_rfl) (by kernel_rfl) (fun w1 hCw1 _ => ⟨?_, ?_⟩)
    · exact ⟨hCw1, hb.no hCw1⟩
    iterate 2 (refine zs_take rfl (zt_pure rfl ?_))
    refine zs_rdL rfl want_none rfl (by decide) (fun _ hS => r_fa rfl) ?_
    refine zs_rdL rfl want_none rfl (by decide) (fun _ hS => r_loadB rfl hS.2 (by rfl)) ?_
    iterate 3 (refine zs_take rfl (zt_pure rfl ?_))
    refine zs_rdL rfl want_none rfl (by decide) (fun _ hS => r_fa rfl) ?_
    refine zs_rdL rfl want_none rfl (by decide) (fun _ hS => r_loadB rfl hS.2 (by rfl)) ?_
    refine zs_take rfl (zt_pure rfl ?_)
    refine zs_rdL rfl want_none rfl (by decide) (fun _ hS => r_ia rfl rfl (by omega) (by omega)) ?_
    refine zs_rdL rfl (by first | exact want_none | exact want_L rfl) rfl (by decide) (fun _ hS => r_load1 rfl (cell_at (cell_no hS.1 hcr) (by omega))) ?_
    refine zs_take rfl (zt_pure rfl ?_)
    refine zs_rdL rfl (by first | exact want_none | exact want_L rfl) rfl (by decide) (fun _ hS => r_cutTo (k := a) hK.flat rfl rfl (by omega)) ?_
    iterate 3 (refine zs_take rfl (zt_pure rfl ?_))
    refine zs_rdL rfl want_none rfl (by decide) (fun _ hS => r_fa rfl) ?_
    refine zs_rdL rfl want_none rfl (by decide) (fun _ hS => r_loadB rfl hS.2 (by rfl)) ?_
    refine zs_take rfl (zt_pure rfl ?_)
    refine zs_rdL rfl want_none rfl (by decide) (fun _ hS => r_ia rfl rfl (by omega) (by omega)) ?_
    refine zs_rdL rfl (by first | exact want_none | exact want_L rfl) rfl (by decide) (fun _ hS => r_load1 rfl (cell_at (cell_no hS.1 hcr) (by omega))) ?_
    refine zs_take rfl (zt_pure rfl ?_)
    refine zs_rdL rfl (by first | exact want_none | exact want_L rfl) rfl (by decide) (fun _ hS => r_cutFrom (k := a) rfl rfl (by omega) (by omega)) ?_
    skip
    -- BEGIN rput.py
    refine zs_two ?_ ?_
    · refine zo_bs0 rfl (by first | exact want_none | exact want_L rfl) (by decide) (fun w2 ca hMw2 => ?_)
      have hCw2 : Chg w w2 No := hCw1.no hMw2.chg
      refine ⟨⟨hCw2, hb.no hCw2⟩, ?_⟩
      have hF : FO w.heap.size w2 (.slice (some ⟨ca, 0, none⟩) 0 0) 0 [] := ⟨Own.empty hMw2, fun k hk => by simp only [Value.ownBlock, Option.some.injEq] at hk; have := hMw2.at_; have := hCw1.size; omega⟩
      refine zs_two ?_ ?_
      · refine zo_appendO rfl (by rfl) (by decide) (by first | exact want_none | exact want_L rfl) (by decide) rfl rfl hF.1 ((hK.take a hal).rd.no hCw2) (by omega) (by omega) (fun vw3 w3 hOw3 hXw3 hrw3 => ?_)
        have hCw3 : Chg w w3 No := hF.ch hCw2 hXw3
        refine ⟨⟨hCw3, hb.no hCw3⟩, ?_⟩
        have hF := hF.grow hCw2.size hOw3 hrw3
        obtain ⟨Aw3, cw3, hvw3, _⟩ := hF.1.rd.form
        subst hvw3
        refine zs_bs1 rfl (by first | exact want_none | exact want_L rfl) (by decide) rfl (by rfl) (by rfl) (by decide) (by decide) (fun w4 cb hMw4 => ?_)
        have hCw4 : Chg w w4 No := hCw3.no hMw4.chg
        refine ⟨⟨hCw4, hb.no hCw4⟩, ?_⟩
        have hr1 : RdS w4 3 1 (.slice (some ⟨cb, 0, none⟩) 1 1) 1 [.int .i64 i] := RdS.new hMw4 rfl (by simp [Value.oneCell'])
        have hF := hF.no hMw4.chg
        refine zs_appendO rfl (by rfl) (by decide) (by first | exact want_none | exact want_L rfl) (by decide) rfl rfl hF.1 hr1 (by omega) (by omega) (fun vw5 w5 hOw5 hXw5 hrw5 => ?_)
        have hCw5 : Chg w w5 No := hF.ch hCw4 hXw5
        refine ⟨⟨hCw5, hb.no hCw5⟩, ?_⟩
        have hF := hF.grow hCw4.size hOw5 hrw5
        obtain ⟨Aw5, cw5, hvw5, _⟩ := hF.1.rd.form
        subst hvw5
        refine zs_appendO rfl (by rfl) (by decide) (by first | exact want_none | exact want_L rfl) (by decide) rfl rfl hF.1 ((RdS.cut hK.rd (k := a) hal).no hCw5) (by omega) (by omega) (fun vw6 w6 hOw6 hXw6 hrw6 => ?_)
        have hCw6 : Chg w w6 No := hF.ch hCw5 hXw6
        refine ⟨⟨hCw6, hb.no hCw6⟩, ?_⟩
        have hF := hF.grow hCw5.size hOw6 hrw6
        obtain ⟨Aw6, cw6, hvw6, _⟩ := hF.1.rd.form
        subst hvw6
        refine zs_rdL rfl want_none rfl (by decide) (fun _ hS => r_ia rfl rfl (by omega) (by omega)) ?_
        have hO : Own w6 3 1 (.slice Aw6 (0 + a + 1 + ((N.getD j n0).kids.length - a)) cw6) (insK (N.getD j n0).kids a i).length (intC (insK (N.getD j n0).kids a i)) := by
          rw [insK_len _ _ _ hal, intC_ins]
          have e := hF.1
          simp only [List.nil_append, Nat.mul_one, List.append_assoc, List.singleton_append] at e
          rw [hlen] at e ⊢
          exact e
        obtain ⟨bo6, co6, cells6, hv6, _, hB6, hfit6, hst6⟩ := (h.no hCw6).row j hj
        cases hv6
        refine zs_storeL (o := j) rfl (by first | exact want_none | exact want_L rfl) (ev_ptr rfl (by omega)) rfl rfl hB6 hfit6 (by simp [Value.cells, Value.oneCell']) (fun w7 hU7 => ?_)
        obtain ⟨g1, g2, g3, g4⟩ := hst6 _ _ hO (fun k hk he => by have := hF.2 k hk; have := h.ups.lt he; omega) w7 hU7
        obtain ⟨bu, cu, cellsu, hvu, _, hBu, hfitu, hstu⟩ := g1.upset i (by rw [List.length_set]; exact hi)
        rw [List.length_set] at hvu
        have hb7 := g1.blk
        cases hvu
        refine zk_seq ?_
        refine zc_seq ?_
        refine zc_region ?_
        iterate 2 (refine zl_pureL rfl ?_)
        refine z_fa want_none (by decide) rfl ?_
        refine z_loadB want_none (by decide) rfl (by assumption) (by rfl) ?_
        iterate 2 (refine zl_pureL rfl ?_)
        refine z_ia want_none (by decide) rfl rfl (by omega) (by omega) ?_
        refine z_store (o := i) (by first | exact want_none | exact want_L rfl) (ev_ptr rfl (by omega)) rfl rfl hBu hfitu (by simp [Value.cells, Value.oneCell']) (fun w8 hU8 => ?_)
        obtain ⟨k1, k2, k3⟩ := hstu _ w8 hU8
        refine zl_nil ?_
        refine zk_seq ?_
        refine zc_seq ?_
        refine zc_region ?_
        refine zl_pureL rfl ?_
        refine zl_nil ?_
        refine zk_seq ?_
        refine zc_ret ?_
        refine zk_ret1 (.inr rfl) rfl rfl ⟨true, _, _, rfl, k1, ⟨?_, ?_, fun b cells hb' => k3 b cells (g4 b cells (hb'.no hCw6))⟩, fun _ => ⟨rfl, ?_⟩, fun hh => absurd hok hh⟩
        · exact ((hCw6.mono (fun _ _ h => h.elim)).trans g2 (fun _ _ h => h)).trans k2 (fun k hk hf => (g3 k hf).elim id (fun h' => by have := hF.2 k h'; omega))
        · intro k hk
          exact (g3 k hk).imp id (fun h' => hF.2 k h')
        · have e : (placeN (ndOf N (j : Nat)).kids ahead).getD 0 = a := by show (placeN (N.getD j n0).kids ahead).getD 0 = a; rw [hpl]; rfl
          show _ = layN N i j _
          rw [e]
          unfold layN
          rw [getD_set _ _ _ _ _ hj, if_neg hij]
      · refine zo_bs1 rfl (by first | exact want_none | exact want_L rfl) (by decide) rfl (by rfl) (by rfl) (by decide) (by decide) (fun w3 cb hMw3 => ?_)
        have hCw3 : Chg w w3 No := hCw2.no hMw3.chg
        refine ⟨⟨hCw3, hb.no hCw3⟩, ?_⟩
        have hr1 : RdS w3 3 1 (.slice (some ⟨cb, 0, none⟩) 1 1) 1 [.int .i64 i] := RdS.new hMw3 rfl (by simp [Value.oneCell'])
        have hF := hF.no hMw3.chg
        refine zs_appendO rfl (by rfl) (by decide) (by first | exact want_none | exact want_L rfl) (by decide) rfl rfl hF.1 ((hK.take a hal).rd.no hCw3) (by omega) (by omega) (fun vw4 w4 hOw4 hXw4 hrw4 => ?_)
        have hCw4 : Chg w w4 No := hF.ch hCw3 hXw4
        refine ⟨⟨hCw4, hb.no hCw4⟩, ?_⟩
        have hr1 := hF.rd hXw4 hr1 (fun k hk he => by simp only [Value.ownBlock, Option.some.injEq] at hk he; have := hMw3.at_; have := hMw2.at_; have := hMw2.size; omega)
        have hF := hF.grow hCw3.size hOw4 hrw4
        obtain ⟨Aw4, cw4, hvw4, _⟩ := hF.1.rd.form
        subst hvw4
        refine zs_appendO rfl (by rfl) (by decide) (by first | exact want_none | exact want_L rfl) (by decide) rfl rfl hF.1 hr1 (by omega) (by omega) (fun vw5 w5 hOw5 hXw5 hrw5 => ?_)
        have hCw5 : Chg w w5 No := hF.ch hCw4 hXw5
        refine ⟨⟨hCw5, hb.no hCw5⟩, ?_⟩
        have hF := hF.grow hCw4.size hOw5 hrw5
        obtain ⟨Aw5, cw5, hvw5, _⟩ := hF.1.rd.form
        subst hvw5
        refine zs_appendO rfl (by rfl) (by decide) (by first | exact want_none | exact want_L rfl) (by decide) rfl rfl hF.1 ((RdS.cut hK.rd (k := a) hal).no hCw5) (by omega) (by omega) (fun vw6 w6 hOw6 hXw6 hrw6 => ?_)
        have hCw6 : Chg w w6 No := hF.ch hCw5 hXw6
        refine ⟨⟨hCw6, hb.no hCw6⟩, ?_⟩
        have hF := hF.grow hCw5.size hOw6 hrw6
        obtain ⟨Aw6, cw6, hvw6, _⟩ := hF.1.rd.form
        subst hvw6
        refine zs_rdL rfl want_none rfl (by decide) (fun _ hS => r_ia rfl rfl (by omega) (by omega)) ?_
        have hO : Own w6 3 1 (.slice Aw6 (0 + a + 1 + ((N.getD j n0).kids.length - a)) cw6) (insK (N.getD j n0).kids a i).length (intC (insK (N.getD j n0).kids a i)) := by
          rw [insK_len _ _ _ hal, intC_ins]
          have e := hF.1
          simp only [List.nil_append, Nat.mul_one, List.append_assoc, List.singleton_append] at e
          rw [hlen] at e ⊢
          exact e
        obtain ⟨bo6, co6, cells6, hv6, _, hB6, hfit6, hst6⟩ := (h.no hCw6).row j hj
        cases hv6
        refine zs_storeL (o := j) rfl (by first | exact want_none | exact want_L rfl) (ev_ptr rfl (by omega)) rfl rfl hB6 hfit6 (by simp [Value.cells, Value.oneCell']) (fun w7 hU7 => ?_)
        obtain ⟨g1, g2, g3, g4⟩ := hst6 _ _ hO (fun k hk he => by have := hF.2 k hk; have := h.ups.lt he; omega) w7 hU7
        obtain ⟨bu, cu, cellsu, hvu, _, hBu, hfitu, hstu⟩ := g1.upset i (by rw [List.length_set]; exact hi)
        rw [List.length_set] at hvu
        have hb7 := g1.blk
        cases hvu
        refine zk_seq ?_
        refine zc_seq ?_
        refine zc_region ?_
        iterate 2 (refine zl_pureL rfl ?_)
        refine z_fa want_none (by decide) rfl ?_
        refine z_loadB want_none (by decide) rfl (by assumption) (by rfl) ?_
        iterate 2 (refine zl_pureL rfl ?_)
        refine z_ia want_none (by decide) rfl rfl (by omega) (by omega) ?_
        refine z_store (o := i) (by first | exact want_none | exact want_L rfl) (ev_ptr rfl (by omega)) rfl rfl hBu hfitu (by simp [Value.cells, Value.oneCell']) (fun w8 hU8 => ?_)
        obtain ⟨k1, k2, k3⟩ := hstu _ w8 hU8
        refine zl_nil ?_
        refine zk_seq ?_
        refine zc_seq ?_
        refine zc_region ?_
        refine zl_pureL rfl ?_
        refine zl_nil ?_
        refine zk_seq ?_
        refine zc_ret ?_
        refine zk_ret1 (.inr rfl) rfl rfl ⟨true, _, _, rfl, k1, ⟨?_, ?_, fun b cells hb' => k3 b cells (g4 b cells (hb'.no hCw6))⟩, fun _ => ⟨rfl, ?_⟩, fun hh => absurd hok hh⟩
        · exact ((hCw6.mono (fun _ _ h => h.elim)).trans g2 (fun _ _ h => h)).trans k2 (fun k hk hf => (g3 k hf).elim id (fun h' => by have := hF.2 k h'; omega))
        · intro k hk
          exact (g3 k hk).imp id (fun h' => hF.2 k h')
        · have e : (placeN (ndOf N (j : Nat)).kids ahead).getD 0 = a := by show (placeN (N.getD j n0).kids ahead).getD 0 = a; rw [hpl]; rfl
          show _ = layN N i j _
          rw [e]
          unfold layN
          rw [getD_set _ _ _ _ _ hj, if_neg hij]
    · refine zo_bs1 rfl (by first | exact want_none | exact want_L rfl) (by decide) rfl (by rfl) (by rfl) (by decide) (by decide) (fun w2 cb hMw2 => ?_)
      have hCw2 : Chg w w2 No := hCw1.no hMw2.chg
      refine ⟨⟨hCw2, hb.no hCw2⟩, ?_⟩
      have hr1 : RdS w2 3 1 (.slice (some ⟨cb, 0, none⟩) 1 1) 1 [.int .i64 i] := RdS.new hMw2 rfl (by simp [Value.oneCell'])
      refine zs_bs0 rfl (by first | exact want_none | exact want_L rfl) (by decide) (fun w3 ca hMw3 => ?_)
      have hCw3 : Chg w w3 No := hCw2.no hMw3.chg
      refine ⟨⟨hCw3, hb.no hCw3⟩, ?_⟩
      have hF : FO w.heap.size w3 (.slice (some ⟨ca, 0, none⟩) 0 0) 0 [] := ⟨Own.empty hMw3, fun k hk => by simp only [Value.ownBlock, Option.some.injEq] at hk; have := hMw3.at_; have := hCw2.size; omega⟩
      have hr1 := hr1.no hMw3.chg
      refine zs_appendO rfl (by rfl) (by decide) (by first | exact want_none | exact want_L rfl) (by decide) rfl rfl hF.1 ((hK.take a hal).rd.no hCw3) (by omega) (by omega) (fun vw4 w4 hOw4 hXw4 hrw4 => ?_)
      have hCw4 : Chg w w4 No := hF.ch hCw3 hXw4
      refine ⟨⟨hCw4, hb.no hCw4⟩, ?_⟩
      have hr1 := hF.rd hXw4 hr1 (fun k hk he => by simp only [Value.ownBlock, Option.some.injEq] at hk he; have := hMw3.at_; have := hMw2.at_; have := hMw2.size; omega)
      have hF := hF.grow hCw3.size hOw4 hrw4
      obtain ⟨Aw4, cw4, hvw4, _⟩ := hF.1.rd.form
      subst hvw4
      refine zs_appendO rfl (by rfl) (by decide) (by first | exact want_none | exact want_L rfl) (by decide) rfl rfl hF.1 hr1 (by omega) (by omega) (fun vw5 w5 hOw5 hXw5 hrw5 => ?_)
      have hCw5 : Chg w w5 No := hF.ch hCw4 hXw5
      refine ⟨⟨hCw5, hb.no hCw5⟩, ?_⟩
      have hF := hF.grow hCw4.size hOw5 hrw5
      obtain ⟨Aw5, cw5, hvw5, _⟩ := hF.1.rd.form
      subst hvw5
      refine zs_appendO rfl (by rfl) (by decide) (by first | exact want_none | exact want_L rfl) (by decide) rfl rfl hF.1 ((RdS.cut hK.rd (k := a) hal).no hCw5) (by omega) (by omega) (fun vw6 w6 hOw6 hXw6 hrw6 => ?_)
      have hCw6 : Chg w w6 No := hF.ch hCw5 hXw6
      refine ⟨⟨hCw6, hb.no hCw6⟩, ?_⟩
      have hF := hF.grow hCw5.size hOw6 hrw6
      obtain ⟨Aw6, cw6, hvw6, _⟩ := hF.1.rd.form
      subst hvw6
      refine zs_rdL rfl want_none rfl (by decide) (fun _ hS => r_ia rfl rfl (by omega) (by omega)) ?_
      have hO : Own w6 3 1 (.slice Aw6 (0 + a + 1 + ((N.getD j n0).kids.length - a)) cw6) (insK (N.getD j n0).kids a i).length (intC (insK (N.getD j n0).kids a i)) := by
        rw [insK_len _ _ _ hal, intC_ins]
        have e := hF.1
        simp only [List.nil_append, Nat.mul_one, List.append_assoc, List.singleton_append] at e
        rw [hlen] at e ⊢
        exact e
      obtain ⟨bo6, co6, cells6, hv6, _, hB6, hfit6, hst6⟩ := (h.no hCw6).row j hj
      cases hv6
      refine zs_storeL (o := j) rfl (by first | exact want_none | exact want_L rfl) (ev_ptr rfl (by omega)) rfl rfl hB6 hfit6 (by simp [Value.cells, Value.oneCell']) (fun w7 hU7 => ?_)
      obtain ⟨g1, g2, g3, g4⟩ := hst6 _ _ hO (fun k hk he => by have := hF.2 k hk; have := h.ups.lt he; omega) w7 hU7
      obtain ⟨bu, cu, cellsu, hvu, _, hBu, hfitu, hstu⟩ := g1.upset i (by rw [List.length_set]; exact hi)
      rw [List.length_set] at hvu
      have hb7 := g1.blk
      cases hvu
      refine zk_seq ?_
      refine zc_seq ?_
      refine zc_region ?_
      iterate 2 (refine zl_pureL rfl ?_)
      refine z_fa want_none (by decide) rfl ?_
      refine z_loadB want_none (by decide) rfl (by assumption) (by rfl) ?_
      iterate 2 (refine zl_pureL rfl ?_)
      refine z_ia want_none (by decide) rfl rfl (by omega) (by omega) ?_
      refine z_store (o := i) (by first | exact want_none | exact want_L rfl) (ev_ptr rfl (by omega)) rfl rfl hBu hfitu (by simp [Value.cells, Value.oneCell']) (fun w8 hU8 => ?_)
      obtain ⟨k1, k2, k3⟩ := hstu _ w8 hU8
      refine zl_nil ?_
      refine zk_seq ?_
      refine zc_seq ?_
      refine zc_region ?_
      refine zl_pureL rfl ?_
      refine zl_nil ?_
      refine zk_seq ?_
      refine zc_ret ?_
      refine zk_ret1 (.inr rfl) rfl rfl ⟨true, _, _, rfl, k1, ⟨?_, ?_, fun b cells hb' => k3 b cells (g4 b cells (hb'.no hCw6))⟩, fun _ => ⟨rfl, ?_⟩, fun hh => absurd hok hh⟩
      · exact ((hCw6.mono (fun _ _ h => h.elim)).trans g2 (fun _ _ h => h)).trans k2 (fun k hk hf => (g3 k hf).elim id (fun h' => by have := hF.2 k h'; omega))
      · intro k hk
        exact (g3 k hk).imp id (fun h' => hF.2 k h')
      · have e : (placeN (ndOf N (j : Nat)).kids ahead).getD 0 = a := by show (placeN (N.getD j n0).kids ahead).getD 0 = a; rw [hpl]; rfl
        show _ = layN N i j _
        rw [e]
        unfold layN
        rw [getD_set _ _ _ _ _ hj, if_neg hij]
    -- END rput.py
end
end Go.Proofs.Ytjiehalanklapaa.D
