import Derived.Test.YtjiehalanklapaaRPut
/- The document's Doc: Take, Write. -/
namespace Go.Z
open Go
section
variable {P : Program} {n : Nat} {e : Env} {w : World} {Q : Exit → Act → World → Prop} {ops : Array Oper} {ks : List Nat} {S : World → Prop}
theorem zs_plainR {i : Nat} {o : Oper} {d : Tmp} {v : Value} {r : Ord} (hi : ops[i]? = some o) (hw : Want ops e o.guard) (hd : o.dst = some d) (hdn : d < n) (hr : ∀ w', Rd P n e w' o v) (h : ZS P n ops ks S r ((d, v) :: e) w Q) : ZS P n ops ks S (.plain i r) e w Q := by
  unfold ZS at *
  intro hsel hS a ha fuel listed hok
  cases fuel with
  | zero => simp [okOrd] at hok
  | succ f =>
    simp only [okOrd, Bool.and_eq_true] at hok
    obtain ⟨⟨⟨h1, h2⟩, h4⟩, h3⟩ := hok
    have h5 : ∀ k ∈ ks, k ≠ i := fun k hk => by
      have := List.all_eq_true.1 h4 k hk
      simpa using this
    exact wpAnyK_plain hi (Region.noSelect_spec hsel) (fun c a w hq => hq) h5 f listed a w (Region.free_spec hi h2) (by simpa using h1) (.inl ⟨hw.wanted ha, fun w' _ => hr w' a ha⟩) (fun _ => hS) (h hsel hS _ (by rw [hd]; exact ha.put d v hdn) f _ h3)
end
end Go.Z
namespace Go.Proofs.Ytjiehalanklapaa.D
open Go Go.Z Go.Proofs
set_option linter.unusedVariables false
section
variable {w : World} {p : Nat} {vn vu vr va : Value} {ms : List MN} {ks : List Value} {N : List ND}
theorem WF.up_ne {N : List ND} (h : WF N) {n u : Nat} (hn : n < N.length) (he : (N.getD n n0).up = u) : n ≠ u := by
  obtain ⟨d, hd⟩ := h.rank
  rintro rfl
  have := hd n hn n he
  omega
set_option maxRecDepth 100000 in
set_option maxHeartbeats 8000000 in
theorem rTake_calls (h : IsR w p vn vu vr ms ks N) (hW : WF N) (hl : N.length ≤ 100000) (n : Int) :
    Calls Try.prog 59 [.pointer (some ⟨p, 0, none⟩), .int .i64 n].toArray w fun e w' => ∃ q ks' N', e = .returned (.bool q) ∧ IsR w' p vn vu vr ms ks' N' ∧ WrR w w' p vn vu vr ks vn vu vr ks' ∧ TakeR N n q N' := by
  have bad : ¬ TakeOk N n → ∃ q ks' N', (Ending.returned (.bool false)) = .returned (.bool q) ∧ IsR w p vn vu vr ms ks' N' ∧ WrR w w p vn vu vr ks vn vu vr ks' ∧ TakeR N n q N' := fun hn => ⟨false, ks, N, rfl, h, WrR.refl _ _ _ _ _ _, fun hh => absurd hh hn, fun _ => ⟨rfl, rfl⟩⟩
  refine calls_zc (n := 66) (f := 59) (fn := Try.f59) Try.func59 rfl rfl (by simp) ?_
  refine zc_seq ?_
  refine zc_region ?_
  refine zl_pureL rfl ?_
  refine zl_nil ?_
  refine zk_seq ?_
  iterate 2 (refine zc_seq ?_)
  refine zc_region ?_
  iterate 2 (refine zl_pureL rfl ?_)
  refine zl_call (by first | exact want_none | exact want_L rfl) rfl (by decide) rfl (rIs_calls h n) ?_
  rintro _ u ⟨rfl, hu⟩
  obtain rfl := hu.symm
  refine ⟨_, rfl, ?_⟩
  by_cases h1 : isN N n
  rotate_left
  · rw [decide_eq_false h1]
    iterate 4 (refine zl_pureL rfl ?_)
    iterate 2 (refine zl_skip rfl ?_)
    refine zl_pureL rfl ?_
    iterate 3 (refine zl_skip rfl ?_)
    refine zl_pureL rfl ?_
    refine zl_nil ?_
    refine zk_seq ?_
    refine zc_true rfl ?_
    refine zc_seq ?_
    refine zc_region ?_
    refine zl_pureL rfl ?_
    refine zl_nil ?_
    refine zk_seq ?_
    refine zc_ret ?_
    refine zk_ret_then ?_
    exact zk_ret1 (.inr rfl) rfl rfl (bad (fun hh => h1 hh.1))
  rw [decide_eq_true h1]
  obtain ⟨i, rfl⟩ := Int.eq_ofNat_of_zero_le h1.1
  have hi : i < N.length := by have := h1.2; omega
  obtain ⟨b, o, c, hv, hp⟩ := h.up i hi
  have hb := h.blk
  rw [hv] at hb
  iterate 4 (refine zl_pureL rfl ?_)
  refine z_fa (want_L rfl) (by decide) rfl ?_
  refine z_loadB (want_L rfl) (by decide) rfl (by assumption) (by rfl) ?_
  refine zl_pureL rfl ?_
  refine z_ia (want_L rfl) (by decide) rfl rfl (by omega) (by omega) ?_
  refine z_load1 (by first | exact want_none | exact want_L rfl) (by decide) rfl (cell_at hp (by omega)) ?_
  by_cases h4 : (N.getD i n0).up < 0
  · refine z_cmpB (r := true) (want_L rfl) (by decide) rfl rfl rfl (iff_of_true rfl (by omega)) ?_
    refine zl_pureL rfl ?_
    refine zl_nil ?_
    refine zk_seq ?_
    refine zc_true rfl ?_
    refine zc_seq ?_
    refine zc_region ?_
    refine zl_pureL rfl ?_
    refine zl_nil ?_
    refine zk_seq ?_
    refine zc_ret ?_
    refine zk_ret_then ?_
    exact zk_ret1 (.inr rfl) rfl rfl (bad (fun hh => by have : 0 ≤ (N.getD i n0).up := hh.2; omega))
  obtain ⟨j, hje⟩ := Int.eq_ofNat_of_zero_le (show 0 ≤ (N.getD i n0).up by omega)
  have hj : j < N.length := by have := (hW.up i hi).2; omega
  have hkj := hW.kids_len hj
  have hij := hW.up_ne hi hje
  have hmem : i ∈ (N.getD j n0).kids := (hW.kid j i hj).2 ⟨hi, hje⟩
  obtain ⟨a, ha, hae, hfa⟩ := findK_mem (hW.nodup j hj) hmem
  have hpl : placeN (N.getD j n0).kids (i : Nat) = some a := by
    unfold placeN
    rw [if_neg (by omega), if_pos (by omega)]; exact hfa
  rw [hje] at hp
  refine z_cmpB (r := false) (want_L rfl) (by decide) rfl rfl rfl (iff_of_false Bool.false_ne_true (by omega)) ?_
  refine zl_pureL rfl ?_
  refine zl_nil ?_
  refine zk_seq ?_
  refine zc_false rfl ?_
  refine zc_skip ?_
  refine zk_seq ?_
  refine zc_seq ?_
  refine zc_region ?_
  iterate 2 (refine zl_pureL rfl ?_)
  refine z_fa want_none (by decide) rfl ?_
  refine z_loadB want_none (by decide) rfl (by assumption) (by rfl) ?_
  refine zl_pureL rfl ?_
  refine z_ia want_none (by decide) rfl rfl (by omega) (by omega) ?_
  refine z_load1 (by first | exact want_none | exact want_L rfl) (by decide) rfl (cell_at hp (by omega)) ?_
  refine zl_pureL rfl ?_
  refine zl_nil ?_
  refine zk_seq ?_
  refine zc_seq ?_
  refine zc_region ?_
  iterate 3 (refine zl_pureL rfl ?_)
  refine zl_call (by first | exact want_none | exact want_L rfl) rfl (by decide) rfl (rPlace_calls h hW j hj (i : Nat) (by omega)) ?_
  rintro _ u ⟨rfl, hu⟩
  obtain rfl := hu.symm
  refine ⟨_, rfl, ?_⟩
  rw [hpl]
  dsimp only [plI]
  obtain ⟨br0, cr0, cells0, hvr0, _⟩ := h.row j hj
  obtain ⟨bu0, cu0, cellsu0, hvu0, _⟩ := h.upset i hi
  obtain ⟨br, or', cr, Ak, ck, hvr, hcr, hks, hck⟩ := h.kd j hj
  have hK := (h.kid j hj).1
  rw [hks] at hK
  rw [hvr] at hvr0
  cases hvr0
  rw [hv] at hvu0
  cases hvu0
  rw [hvr] at hb
  subst hv
  subst hvr
  refine zl_pureL rfl ?_
  refine zl_nil ?_
  refine zk_seq ?_
  refine zc_seq ?_
  refine zc_draw [28] (fun w' => Chg w w' No ∧ Blk w' p 63 [vn, .slice (some ⟨b, 0, none⟩) N.length c, .slice (some ⟨br0, 0, none⟩) N.length cr0]) (.take 0 (.take 1 (.take 2 (.take 3 (.take 4 (.take 6 (.take 7 (.take 8 (.take 9 (.take 10 (.take 11 (.take 12 (.take 13 (.take 14 (.take 16 (.take 17 (.take 18 (.take 19 (.take 20 (.take 21 (.take 22 (.take 23 (.take 24 (.take 25 (.all1 5 (.all1 15 (.all1 26 (.take 27 (.last 28))))))))))))))))))))))))))))) (by rfl) (by kernel_rfl) (by kernel_rfl) (fun w1 hCw1 _ => ⟨?_, ?_⟩)
  · exact ⟨hCw1, hb.no hCw1⟩
  iterate 2 (refine zs_take rfl (zt_pure rfl ?_))
  refine zs_rdL rfl want_none rfl (by decide) (fun _ hS => r_fa rfl) ?_
  refine zs_rdL rfl want_none rfl (by decide) (fun _ hS => r_loadB rfl hS.2 (by rfl)) ?_
  iterate 3 (refine zs_take rfl (zt_pure rfl ?_))
  refine zs_rdL rfl want_none rfl (by decide) (fun _ hS => r_fa rfl) ?_
  refine zs_rdL rfl want_none rfl (by decide) (fun _ hS => r_loadB rfl hS.2 (by rfl)) ?_
  refine zs_take rfl (zt_pure rfl ?_)
  refine zs_rdL rfl want_none rfl (by decide) (fun _ hS => r_ia rfl rfl (by omega) (by omega)) ?_
  refine zs_rdL rfl (by first | exact want_none | exact want_L rfl) rfl (by decide) (fun _ hS => r_load1 rfl (cell_at (cell_no hS.1 hcr) (by omega))) ?_
  refine zs_take rfl (zt_pure rfl ?_)
  refine zs_rdL rfl (by first | exact want_none | exact want_L rfl) rfl (by decide) (fun _ hS => r_cutTo (k := a) hK.flat rfl rfl (by omega)) ?_
  iterate 2 (refine zs_take rfl (zt_pure rfl ?_))
  refine zs_rdL rfl want_none rfl (by decide) (fun _ hS => r_fa rfl) ?_
  refine zs_rdL rfl want_none rfl (by decide) (fun _ hS => r_loadB rfl hS.2 (by rfl)) ?_
  refine zs_take rfl (zt_pure rfl ?_)
  refine zs_rdL rfl want_none rfl (by decide) (fun _ hS => r_ia rfl rfl (by omega) (by omega)) ?_
  refine zs_rdL rfl (by first | exact want_none | exact want_L rfl) rfl (by decide) (fun _ hS => r_load1 rfl (cell_at (cell_no hS.1 hcr) (by omega))) ?_
  refine zs_take rfl (zt_pure rfl ?_)
  refine zs_rdL rfl want_none rfl (by decide) (fun _ hS => r_add rfl rfl (by omega) (by omega)) ?_
  refine zs_rdL rfl (by first | exact want_none | exact want_L rfl) rfl (by decide) (fun _ hS => r_cutFrom (k := a + 1) rfl (optI_eq rfl (by omega)) (by omega) (by omega)) ?_
  skip
  refine zs_bs0 rfl (by first | exact want_none | exact want_L rfl) (by decide) (fun w2 ca hM2 => ?_)
  have hCw2 : Chg w w2 No := hCw1.no hM2.chg
  refine ⟨⟨hCw2, hb.no hCw2⟩, ?_⟩
  have hF : FO w.heap.size w2 (.slice (some ⟨ca, 0, none⟩) 0 0) 0 [] := ⟨Own.empty hM2, fun k hk => by simp only [Value.ownBlock, Option.some.injEq] at hk; have := hM2.at_; have := hCw1.size; omega⟩
  refine zs_appendO rfl (by rfl) (by decide) (by first | exact want_none | exact want_L rfl) (by decide) rfl rfl hF.1 ((hK.take a (by omega)).rd.no hCw2) (by omega) (by omega) (fun v3 w3 hO3 hX3 hr3 => ?_)
  have hCw3 : Chg w w3 No := hF.ch hCw2 hX3
  refine ⟨⟨hCw3, hb.no hCw3⟩, ?_⟩
  have hF := hF.grow hCw2.size hO3 hr3
  obtain ⟨A3, c3, hv3, _⟩ := hF.1.rd.form
  subst hv3
  refine zs_appendO rfl (by rfl) (by decide) (by first | exact want_none | exact want_L rfl) (by decide) rfl rfl hF.1 ((RdS.cut hK.rd (k := a + 1) (by omega)).no hCw3) (by omega) (by omega) (fun v4 w4 hO4 hX4 hr4 => ?_)
  have hCw4 : Chg w w4 No := hF.ch hCw3 hX4
  refine ⟨⟨hCw4, hb.no hCw4⟩, ?_⟩
  have hF := hF.grow hCw3.size hO4 hr4
  obtain ⟨A4, c4, hv4, _⟩ := hF.1.rd.form
  subst hv4
  refine zs_rdL rfl want_none rfl (by decide) (fun _ hS => r_ia rfl rfl (by omega) (by omega)) ?_
  have hdk : delK (N.getD j n0).kids i = (N.getD j n0).kids.take a ++ (N.getD j n0).kids.drop (a + 1) := by unfold delK; rw [hfa]
  have hO : Own w4 3 1 (.slice A4 (0 + a + ((N.getD j n0).kids.length - (a + 1))) c4) (delK (N.getD j n0).kids i).length (intC (delK (N.getD j n0).kids i)) := by
    have hlen : (delK (N.getD j n0).kids i).length = 0 + a + ((N.getD j n0).kids.length - (a + 1)) := by rw [hdk, List.length_append, List.length_take, List.length_drop]; omega
    rw [hlen, hdk, intC_app]
    have e := hF.1
    simp only [List.nil_append, Nat.mul_one] at e
    simp only [intC, List.map_take, List.map_drop] at e ⊢
    exact e
  obtain ⟨bo6, co6, cells6, hv6, _, hB6, hfit6, hst6⟩ := (h.no hCw4).row j hj
  cases hv6
  refine zs_storeL (o := j) rfl (by first | exact want_none | exact want_L rfl) (ev_ptr rfl (by omega)) rfl rfl hB6 hfit6 (by simp [Value.cells, Value.oneCell']) (fun w7 hU7 => ?_)
  obtain ⟨g1, g2, g3, g4⟩ := hst6 _ _ hO (fun k hk he => by have := hF.2 k hk; have := h.ups.lt he; omega) w7 hU7
  obtain ⟨bu, cu, cellsu, hvu, _, hBu, hfitu, hstu⟩ := g1.upset i (by rw [List.length_set]; exact hi)
  rw [List.length_set] at hvu
  have hb7 := g1.blk
  cases hvu
  refine zk_seq ?_
  refine zc_seq ?_
  refine zc_region ?_
  iterate 2 (refine zl_pureL rfl ?_)
  refine z_fa want_none (by decide) rfl ?_
  refine z_loadB want_none (by decide) rfl (by assumption) (by rfl) ?_
  refine zl_pureL rfl ?_
  refine z_ia want_none (by decide) rfl rfl (by omega) (by omega) ?_
  refine z_store (o := i) (by first | exact want_none | exact want_L rfl) (ev_ptr rfl (by omega)) rfl rfl hBu hfitu (by simp [Value.cells, Value.oneCell']) (fun w8 hU8 => ?_)
  obtain ⟨k1, k2, k3⟩ := hstu _ w8 hU8
  refine zl_nil ?_
  refine zk_seq ?_
  refine zc_seq ?_
  refine zc_region ?_
  refine zl_pureL rfl ?_
  refine zl_nil ?_
  refine zk_seq ?_
  refine zc_ret ?_
  refine zk_ret1 (.inr rfl) rfl rfl ⟨true, _, _, rfl, k1, ⟨?_, ?_, fun b cells hb' => k3 b cells (g4 b cells (hb'.no hCw4))⟩, fun _ => ⟨rfl, ?_⟩, fun hh => absurd (show TakeOk N (i : Nat) from ⟨h1, by show 0 ≤ (N.getD i n0).up; omega⟩) hh⟩
  · exact ((hCw4.mono (fun _ _ h => h.elim)).trans g2 (fun _ _ h => h)).trans k2 (fun k hk hf => (g3 k hf).elim id (fun h' => by have := hF.2 k h'; omega))
  · intro k hk
    exact (g3 k hk).imp id (fun h' => hF.2 k h')
  · show _ = takeN N i
    unfold takeN
    rw [getD_set _ _ _ _ _ hj, if_neg hij, hje]
    rfl
set_option maxRecDepth 100000 in
set_option maxHeartbeats 8000000 in
theorem rWrite_calls (h : IsR w p vn vu vr ms ks N) (hW : WF N) (hl : N.length ≤ 99999) (s : List UInt8) (hs : s.length ≤ 100000) (ht : ∀ i, (N.getD i n0).text.length ≤ 1000000000) (up ahead : Int) :
    Calls Try.prog 61 [.pointer (some ⟨p, 0, none⟩), .string (bs s), .int .i64 up, .int .i64 ahead].toArray w fun e w' => ∃ q vn' vu' vr' ms' ks' N', e = .returned (.bool q) ∧ IsR w' p vn' vu' vr' ms' ks' N' ∧ WrR w w' p vn vu vr ks vn' vu' vr' ks' ∧ WriteR N s up ahead q N' := by
  have bad : ¬ WriteOk N up ahead → ∃ q vn' vu' vr' ms' ks' N', (Ending.returned (.bool false)) = .returned (.bool q) ∧ IsR w p vn' vu' vr' ms' ks' N' ∧ WrR w w p vn vu vr ks vn' vu' vr' ks' ∧ WriteR N s up ahead q N' := fun hn => ⟨false, vn, vu, vr, ms, ks, N, rfl, h, WrR.refl _ _ _ _ _ _, fun hh => absurd hh hn, fun _ => ⟨rfl, rfl⟩⟩
  refine calls_zc (n := 70) (f := 61) (fn := Try.f61) Try.func61 rfl rfl (by simp) ?_
  refine zc_seq ?_
  refine zc_region ?_
  refine zl_pureL rfl ?_
  refine zl_nil ?_
  refine zk_seq ?_
  iterate 2 (refine zc_seq ?_)
  refine zc_region ?_
  iterate 2 (refine zl_pureL rfl ?_)
  refine zl_call (by first | exact want_none | exact want_L rfl) rfl (by decide) rfl (rElem_calls h up) ?_
  rintro _ u ⟨rfl, hu⟩
  obtain rfl := hu.symm
  refine ⟨_, rfl, ?_⟩
  by_cases h2 : isN N up ∧ (ndOf N up).kind = 1
  rotate_left
  · rw [decide_eq_false h2]
    refine zl_pureL rfl ?_
    refine zl_nil ?_
    refine zk_seq ?_
    refine zc_true rfl ?_
    refine zc_seq ?_
    refine zc_region ?_
    refine zl_pureL rfl ?_
    refine zl_nil ?_
    refine zk_seq ?_
    refine zc_ret ?_
    refine zk_ret_then ?_
    exact zk_ret1 (.inr rfl) rfl rfl (bad (fun hh => h2 ⟨hh.1, hh.2.1⟩))
  rw [decide_eq_true h2]
  obtain ⟨j, rfl⟩ := Int.eq_ofNat_of_zero_le h2.1.1
  have hj : j < N.length := by have := h2.1.2; omega
  have hkj := hW.kids_len hj
  refine zl_pureL rfl ?_
  refine zl_nil ?_
  refine zk_seq ?_
  refine zc_false rfl ?_
  refine zc_skip ?_
  refine zk_seq ?_
  refine zc_seq ?_
  refine zc_region ?_
  iterate 3 (refine zl_pureL rfl ?_)
  refine zl_call (by first | exact want_none | exact want_L rfl) rfl (by decide) rfl (rPlace_calls h hW j hj ahead (by omega)) ?_
  rintro _ u ⟨rfl, hu⟩
  obtain rfl := hu.symm
  refine ⟨_, rfl, ?_⟩
  cases hpl : placeN (N.getD j n0).kids ahead with
  | none =>
    dsimp only [plI]
    refine zl_pureL rfl ?_
    refine zl_nil ?_
    refine zk_seq ?_
    iterate 2 (refine zc_seq ?_)
    refine zc_region ?_
    refine zl_pureL rfl ?_
    refine z_cmpB (r := true) want_none (by decide) rfl rfl rfl (iff_of_true rfl (by omega)) ?_
    refine zl_nil ?_
    refine zk_seq ?_
    refine zc_true rfl ?_
    refine zc_seq ?_
    refine zc_region ?_
    refine zl_pureL rfl ?_
    refine zl_nil ?_
    refine zk_seq ?_
    refine zc_ret ?_
    refine zk_ret_then ?_
    exact zk_ret1 (.inr rfl) rfl rfl (bad (fun hh => by
      have : (placeN (N.getD j n0).kids ahead).isSome = true := hh.2.2
      rw [hpl] at this; cases this))
  | some a =>
    have hok : WriteOk N j ahead := ⟨h2.1, h2.2, by show (placeN (N.getD j n0).kids ahead).isSome = true; rw [hpl]; rfl⟩
    have hal := placeN_le hpl
    have hpe : (placeN (ndOf N (j : Nat)).kids ahead).getD 0 = a := by show (placeN (N.getD j n0).kids ahead).getD 0 = a; rw [hpl]; rfl
    dsimp only [plI]
    refine zl_pureL rfl ?_
    refine zl_nil ?_
    refine zk_seq ?_
    iterate 2 (refine zc_seq ?_)
    refine zc_region ?_
    refine zl_pureL rfl ?_
    refine z_cmpB (r := false) want_none (by decide) rfl rfl rfl (iff_of_false Bool.false_ne_true (by omega)) ?_
    refine zl_nil ?_
    refine zk_seq ?_
    refine zc_false rfl ?_
    refine zc_skip ?_
    refine zk_seq ?_
    iterate 2 (refine zc_seq ?_)
    refine zc_region ?_
    refine zl_pureL rfl ?_
    refine z_eqL (r := []) (by first | exact want_none | exact want_L rfl) (by decide) rfl rfl (fun hse => ?_) (fun hse => ?_)
    · refine zl_nil ?_
      refine zk_seq ?_
      refine zc_true rfl ?_
      refine zc_seq ?_
      refine zc_region ?_
      refine zl_pureL rfl ?_
      refine zl_nil ?_
      refine zk_seq ?_
      refine zc_ret ?_
      refine zk_ret_then ?_
      refine zk_ret1 (.inr rfl) rfl rfl ⟨true, _, _, _, _, _, N, rfl, h, WrR.refl _ _ _ _ _ _, fun _ => ⟨rfl, ?_⟩, fun hh => absurd hok hh⟩
      rw [hpe]; unfold writeN; rw [if_pos hse]
    have hlt : N.length < (N ++ [textN s]).length := by simp
    have put : ∀ {u : World} {ms0 : List MN} {ks0 : List Value} {vn0 vu0 vr0 : Value}, IsR u p vn0 vu0 vr0 ms0 ks0 (N ++ [textN s]) → Calls Try.prog 62 [.pointer (some ⟨p, 0, none⟩), .int .i64 N.length, .int .i64 j, .int .i64 ahead].toArray u fun e w' => ∃ ks', e = .returned (.bool true) ∧ IsR w' p vn0 vu0 vr0 ms0 ks' (layN (N ++ [textN s]) N.length j a) ∧ WrR u w' p vn0 vu0 vr0 ks0 vn0 vu0 vr0 ks' := fun {u ms0 ks0 vn0 vu0 vr0} hR => by
      have hW1 := hW.add (x := textN s) rfl rfl
      have hxn : (N ++ [textN s]).getD N.length n0 = textN s := by rw [getD_add, if_pos rfl]
      have hxj : (N ++ [textN s]).getD j n0 = N.getD j n0 := by rw [getD_add, if_neg (by omega)]
      have hp0 := hW.pos
      have hok2 : PutOk (N ++ [textN s]) (N.length : Nat) (j : Nat) ahead := by
        refine ⟨⟨by omega, by omega⟩, ⟨by omega, by omega⟩, ?_, by omega, ?_, fun ha => ?_, ?_⟩
        · show ((N ++ [textN s]).getD j n0).kind = 1
          rw [hxj]; exact h2.2
        · show ((N ++ [textN s]).getD N.length n0).up < 0
          rw [hxn]; show (-1 : Int) < 0; omega
        · have := Anc.fresh hW1 (n := j) (top := N.length) (by omega) (by rw [hxn]; rfl) ha
          omega
        · show (placeN ((N ++ [textN s]).getD j n0).kids ahead).isSome = true
          rw [hxj, hpl]; rfl
      refine (rPut_calls hR hW1 (by rw [List.length_append]; simp only [List.length_singleton]; omega) (N.length : Nat) (j : Nat) ahead).mono fun e w' ⟨q, ks', N', he, g1, g2, g3⟩ => ?_
      obtain ⟨rfl, rfl⟩ := g3.1 hok2
      refine ⟨ks', he, ?_, g2⟩
      have e : (placeN (ndOf (N ++ [textN s]) (j : Nat)).kids ahead).getD 0 = a := by show (placeN ((N ++ [textN s]).getD j n0).kids ahead).getD 0 = a; rw [hxj, hpl]; rfl
      rw [e] at g1
      exact g1
    have hvn := h.formN
    obtain ⟨br, or', cr, Ak, ck, hvr, hcr, hks, hck⟩ := h.kd j hj
    have hK := (h.kid j hj).1
    rw [hks] at hK
    have hb := h.blk
    rw [hvr] at hb
    by_cases ha0 : a = 0
    · subst ha0
      have hcnd : ¬ (0 < 0 ∧ (N.getD (lastK N j 0) n0).kind = 2) := fun hh => absurd hh.1 (by omega)
      refine zl_nil ?_
      refine zk_seq ?_
      refine zc_false rfl ?_
      refine zc_skip ?_
      refine zk_seq ?_
      iterate 2 (refine zc_seq ?_)
      refine zc_region ?_
      refine zl_pureL rfl ?_
      refine z_cmpB (r := false) want_none (by decide) rfl rfl rfl (iff_of_false Bool.false_ne_true (by omega)) ?_
      refine zl_nil ?_
      refine zk_seq ?_
      refine zc_false rfl ?_
      refine zc_skip ?_
      refine zk_seq ?_
      refine zc_seq ?_
      refine zc_region ?_
      iterate 3 (refine zl_pureL rfl ?_)
      refine z_buildE #[.int .i64 2, .int .i64 0, .string ⟨#[]⟩, .slice none 0 0, .string (bs s), .int .i64 0, .slice none 0 0] (by first | exact want_none | exact want_L rfl) (by decide) rfl (by kernel_rfl) ?_
      skip
      refine zl_call (by first | exact want_none | exact want_L rfl) rfl (by decide) rfl (rLay_calls (va := .slice none 0 0) h (by omega) (textN s) rfl rfl (AttrS.nil _)) ?_
      rintro _ u1 ⟨rfl, vn1, vu1, vr1, ms1, ks1, g1, g2⟩
      refine ⟨_, rfl, ?_⟩
      iterate 2 (refine zl_pureL rfl ?_)
      refine zl_call (by first | exact want_none | exact want_L rfl) rfl (by decide) rfl (put g1) ?_
      rintro _ u2 ⟨ks2, rfl, g3, g4⟩
      refine ⟨_, rfl, ?_⟩
      refine zl_pureL rfl ?_
      refine zl_nil ?_
      refine zk_seq ?_
      refine zc_ret ?_
      refine zk_ret1 (.inr rfl) rfl rfl ⟨true, _, _, _, _, _, _, rfl, g3, g2.trans g4, fun _ => ⟨rfl, ?_⟩, fun hh => absurd hok hh⟩
      rw [hpe]; show _ = writeN N s j _; unfold writeN; rw [if_neg hse, if_neg hcnd]
    · obtain ⟨bk, ok, ck', hvk, _, hck2⟩ := RdS.some hK.rd (by omega)
      cases hvk
      have hcell := hck2 (a - 1) _ (intC_get _ (a - 1) (by omega))
      have hkm : (N.getD j n0).kids.getD (a - 1) 0 < N.length := lastK_lt hW hj (by omega) hal
      obtain ⟨k, hkk⟩ : ∃ k, k = (N.getD j n0).kids.getD (a - 1) 0 := ⟨_, rfl⟩
      rw [← hkk] at hcell hkm
      have hlk : lastK N j a = k := hkk.symm
      obtain ⟨bn, on, cn, An, hvn', hnd, hAn⟩ := h.nd k hkm
      rw [hvn'] at hb
      have hc0 := hnd.c0
      have hc4 := hnd.c4
      have htk := ht k
      refine zl_nil ?_
      refine zk_seq ?_
      refine zc_false rfl ?_
      refine zc_skip ?_
      refine zk_seq ?_
      iterate 2 (refine zc_seq ?_)
      refine zc_region ?_
      refine zl_pureL rfl ?_
      refine z_cmpB (r := true) want_none (by decide) rfl rfl rfl (iff_of_true rfl (by omega)) ?_
      refine zl_nil ?_
      refine zk_seq ?_
      refine zc_true rfl ?_
      refine zc_seq ?_
      refine zc_region ?_
      iterate 2 (refine zl_pureL rfl ?_)
      refine z_fa want_none (by decide) rfl ?_
      refine z_loadB want_none (by decide) rfl (by assumption) (by rfl) ?_
      refine zl_pureL rfl ?_
      refine z_ia want_none (by decide) rfl rfl (by omega) (by omega) ?_
      refine z_load1 (by first | exact want_none | exact want_L rfl) (by decide) rfl (cell_at hcr (by omega)) ?_
      refine zl_pureL rfl ?_
      refine z_sub want_none (by decide) rfl rfl (by omega) (by omega) ?_
      refine z_ia want_none (by decide) rfl rfl (by omega) (by omega) ?_
      refine z_load1 (by first | exact want_none | exact want_L rfl) (by decide) rfl (cell_at hcell (by omega)) ?_
      refine zl_pureL rfl ?_
      refine zl_nil ?_
      refine zk_seq ?_
      refine zc_seq ?_
      refine zc_region ?_
      iterate 2 (refine zl_pureL rfl ?_)
      refine z_fa want_none (by decide) rfl ?_
      refine z_loadB want_none (by decide) rfl (by assumption) (by rfl) ?_
      refine zl_pureL rfl ?_
      refine z_ia want_none (by decide) rfl rfl (by omega) (by omega) ?_
      refine z_fa want_none (by decide) rfl ?_
      refine z_load1 want_none (by decide) rfl (by assumption) ?_
      refine z_cmpB (r := decide ((N.getD k n0).kind = 2)) (by first | exact want_none | exact want_L rfl) (by decide) rfl rfl rfl (by simp [hdOf]) ?_
      by_cases hk2 : (N.getD k n0).kind = 2
      · have hcnd : 0 < a ∧ (N.getD (lastK N j a) n0).kind = 2 := ⟨by omega, by rw [hlk]; exact hk2⟩
        obtain ⟨bo, co, cells, hvo, _, hB, hfit, hst⟩ := h.txset k hkm
        rw [hvn'] at hvo
        cases hvo
        rw [decide_eq_true hk2]
        refine zl_nil ?_
        refine zk_seq ?_
        refine zc_true rfl ?_
        refine zc_seq ?_
        refine zc_draw [17] (fun w' => Chg w w' No ∧ Blk w' p 63 [.slice (some ⟨bn, 0, none⟩) N.length cn, vu, .slice (some ⟨br, or', none⟩) N.length cr]) (.take 0 (.take 1 (.take 2 (.take 3 (.take 4 (.take 5 (.take 6 (.take 7 (.take 8 (.take 9 (.take 10 (.take 11 (.take 12 (.take 13 (.take 14 (.plain 15 (.take 16 (.last 17)))))))))))))))))) (by rfl) (by kernel_rfl) (by kernel_rfl) (fun w1 hCw1 _ => ⟨?_, ?_⟩)
        · exact ⟨hCw1, hb.no hCw1⟩
        obtain ⟨bo', co', cells', hvo', _, hB', hfit', hst'⟩ := (h.no hCw1).txset k hkm
        rw [hvn'] at hvo'
        cases hvo'
        iterate 2 (refine zs_take rfl (zt_pure rfl ?_))
        refine zs_rdL rfl want_none rfl (by decide) (fun _ hS => r_fa rfl) ?_
        refine zs_rdL rfl want_none rfl (by decide) (fun _ hS => r_loadB rfl hS.2 (by rfl)) ?_
        iterate 3 (refine zs_take rfl (zt_pure rfl ?_))
        refine zs_rdL rfl want_none rfl (by decide) (fun _ hS => r_fa rfl) ?_
        refine zs_rdL rfl want_none rfl (by decide) (fun _ hS => r_loadB rfl hS.2 (by rfl)) ?_
        refine zs_take rfl (zt_pure rfl ?_)
        refine zs_rdL rfl want_none rfl (by decide) (fun _ hS => r_ia rfl rfl (by omega) (by omega)) ?_
        refine zs_rdL rfl want_none rfl (by decide) (fun _ hS => r_fa rfl) ?_
        refine zs_rdL rfl (by first | exact want_none | exact want_L rfl) rfl (by decide) (fun _ hS => r_load1 rfl (cell_at (cell_no hS.1 hc4) (by omega))) ?_
        refine zs_take rfl (zt_pure rfl ?_)
        refine zs_rdL rfl want_none rfl (by decide) (fun _ hS => r_catL rfl rfl (by omega)) ?_
        refine zs_plainR rfl (by first | exact want_none | exact want_L rfl) rfl (by decide) (fun _ => r_ia rfl rfl (by omega) (by omega)) ?_
        refine zs_rdL rfl want_none rfl (by decide) (fun _ hS => r_fa rfl) ?_
        refine zs_storeL (o := k * 7 + 4) rfl (by first | exact want_none | exact want_L rfl) (ev_ptr rfl (by omega)) rfl rfl hB' hfit' (by simp [Value.cells, Value.oneCell']) (fun w7 hU7 => ?_)
        obtain ⟨ms', g1, g2, g3⟩ := hst' _ w7 hU7
        refine zk_seq ?_
        refine zc_seq ?_
        refine zc_region ?_
        refine zl_pureL rfl ?_
        refine zl_nil ?_
        refine zk_seq ?_
        refine zc_ret ?_
        refine zk_ret_then ?_
        refine zk_ret1 (.inr rfl) rfl rfl ⟨true, _, _, _, _, _, _, rfl, g1, ⟨?_, fun k hk => .inl hk, fun b cells hb' => g3 b cells (hb'.no hCw1)⟩, fun _ => ⟨rfl, ?_⟩, fun hh => absurd hok hh⟩
        · exact (hCw1.mono (fun _ _ h => h.elim)).trans g2 (fun _ _ h => h)
        · rw [hpe]; show _ = writeN N s j _; unfold writeN; rw [if_neg hse, if_pos hcnd, hlk]
      · have hcnd : ¬ (0 < a ∧ (N.getD (lastK N j a) n0).kind = 2) := fun hh => hk2 (by rw [← hlk]; exact hh.2)
        rw [decide_eq_false hk2]
        refine zl_nil ?_
        refine zk_seq ?_
        refine zc_false rfl ?_
        refine zc_skip ?_
        refine zk_seq ?_
        refine zc_seq ?_
        refine zc_region ?_
        iterate 3 (refine zl_pureL rfl ?_)
        refine z_buildE #[.int .i64 2, .int .i64 0, .string ⟨#[]⟩, .slice none 0 0, .string (bs s), .int .i64 0, .slice none 0 0] (by first | exact want_none | exact want_L rfl) (by decide) rfl (by kernel_rfl) ?_
        skip
        refine zl_call (by first | exact want_none | exact want_L rfl) rfl (by decide) rfl (rLay_calls (va := .slice none 0 0) h (by omega) (textN s) rfl rfl (AttrS.nil _)) ?_
        rintro _ u1 ⟨rfl, vn1, vu1, vr1, ms1, ks1, g1, g2⟩
        refine ⟨_, rfl, ?_⟩
        iterate 2 (refine zl_pureL rfl ?_)
        refine zl_call (by first | exact want_none | exact want_L rfl) rfl (by decide) rfl (put g1) ?_
        rintro _ u2 ⟨ks2, rfl, g3, g4⟩
        refine ⟨_, rfl, ?_⟩
        refine zl_pureL rfl ?_
        refine zl_nil ?_
        refine zk_seq ?_
        refine zc_ret ?_
        refine zk_ret1 (.inr rfl) rfl rfl ⟨true, _, _, _, _, _, _, rfl, g3, g2.trans g4, fun _ => ⟨rfl, ?_⟩, fun hh => absurd hok hh⟩
        rw [hpe]; show _ = writeN N s j _; unfold writeN; rw [if_neg hse, if_neg hcnd]
end
end Go.Proofs.Ytjiehalanklapaa.D
