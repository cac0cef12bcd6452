import Derived.Test.YteeibieaapiomaaDDoc3
/- A node put among kids: lay, Put. -/
namespace Go.Proofs.Yteeibieaapiomaa.D
open Go Go.Z Go.Proofs
set_option linter.unusedVariables false
theorem ev_ptr {e : Env} {x : Operand} {b o o' : Nat} (h : ev e x = some (.pointer (some ⟨b, o, none⟩))) (ho : o = o') : ev e x = some (.pointer (some ⟨b, o', none⟩)) := by rw [h, ho]
theorem put_list {α : Type} (L : List α) (z x : α) (i : Nat) (hi : i ≤ L.length) : ((L ++ [z]).take (i + 1) ++ ((L ++ [z]).drop i).take (L.length - i) ++ (L ++ [z]).drop (L.length + 1)).set i x = L.take i ++ x :: L.drop i := by
  have h1 : ((L ++ [z]).drop i).take (L.length - i) = L.drop i := by
    rw [List.drop_append_of_le_length hi, List.take_append_of_le_length (by simp), List.take_of_length_le (by simp)]
  have h2 : (L ++ [z]).drop (L.length + 1) = [] := List.drop_eq_nil_of_le (by simp)
  rw [h1, h2, List.append_nil, List.set_append_left _ _ (by simp; omega)]
  rw [List.set_eq_take_append_cons_drop, if_pos (by rw [List.length_take]; simp; omega), List.take_take, Nat.min_eq_left (by omega), List.take_append_of_le_length hi, List.drop_of_length_le (by simp; omega)]
  simp
theorem intC_ins (K : List Nat) (a n : Nat) : intC (insK K a n) = (intC K).take a ++ .int .i64 ((n : Nat) : Int) :: (intC K).drop a := by simp [intC, insK, List.map_take, List.map_drop]
set_option maxHeartbeats 4000000 in
theorem lay_calls {w : World} {p : Nat} {vl : Value} {Q : List PN} {N : List ND} (h : IsD w p vl Q N) (n up a : Nat) (hn : n < N.length) (hup : up < N.length) (hne : n ≠ up) (ha : a ≤ (N.getD up n0).kids.length) (hk : (N.getD up n0).kids.length ≤ 100000) :
    Calls Try.prog 90 [.pointer (some ⟨p, 0, none⟩), .int .i64 n, .int .i64 up, .int .i64 a].toArray w fun e w' => e = .returned (.tuple #[]) ∧ ∃ Q', IsD w' p vl Q' (layN N n up a) ∧ WrD w w' p vl Q vl Q' := by
  obtain ⟨b, o, c, hv, hp⟩ := h.ptr up hup
  have hnode := h.at_ up hup
  obtain ⟨hb0, hA, hT, hK⟩ := hnode
  have hblk := h.blk
  rw [hv] at hblk
  have hQ : up < Q.length := by rw [h.len]; exact hup
  refine calls_zc (n := 56) (f := 90) (fn := Try.f90) Try.func90 rfl rfl (by simp) ?_
  refine zc_seq ?_
  refine zc_region ?_
  iterate 2 (refine zl_pureL rfl ?_)
  refine z_fa want_none (by decide) rfl ?_
  refine z_loadB want_none (by decide) rfl (by assumption) (by rfl) ?_
  refine zl_pureL rfl ?_
  refine z_ia want_none (by decide) rfl rfl (by omega) (by omega) ?_
  refine z_load1 (by first | exact want_none | exact want_L rfl) (by decide) rfl (cell_at hp (by omega)) ?_
  refine zl_pureL rfl ?_
  refine zl_nil ?_
  refine zk_seq ?_
  refine zc_seq ?_
  refine zc_region ?_
  iterate 3 (refine zl_pureL rfl ?_)
  refine z_fa want_none (by decide) rfl ?_
  refine z_loadB want_none (by decide) rfl (by assumption) (by rfl) ?_
  refine z_bs1 (by first | exact want_none | exact want_L rfl) (by decide) rfl (by rfl) (by rfl) (by decide) (by decide) (fun w1 b1 hN1 => ?_)
  have hK1 := hK.no hN1.chg
  refine z_appendO (by rfl) (by decide) (by first | exact want_none | exact want_L rfl) (by decide) rfl rfl hK1 (RdS.new (cs := [.int .i64 0]) (m := 1) hN1 rfl (by simp [Value.oneCell'])) (by omega) (by omega) (fun v2 w2 hO2 hC2 hr2 => ?_)
  have hb2 := (hb0.no hN1.chg).chg hC2 (fun he => hK1.ne he (hb0.no hN1.chg) (by decide) rfl)
  obtain ⟨hl2, hcs⟩ := hO2.cases
  rcases hcs with ⟨_, h0, _⟩ | ⟨b2, c2, junk, rfl, hc2, _⟩
  · omega
  have hbb : b2 ≠ (Q.getD up q0).b := hO2.ne rfl hb2 (by decide)
  refine zl_pureL rfl ?_
  refine z_fa want_none (by decide) rfl ?_
  refine z_store (by first | exact want_none | exact want_L rfl) rfl rfl rfl (by assumption) (by first | exact Nat.le_refl _ | simp [Value.cells]) (by simp [Value.cells, Value.oneCell']) (fun w3 hU3 => ?_)
  have hb3 : Blk w3 (Q.getD up q0).b 80 [.int .i64 (N.getD up n0).kind, .int .i64 (N.getD up n0).space, .string (N.getD up n0).name, (Q.getD up q0).va, (Q.getD up q0).vt, .int .i64 (N.getD up n0).up, .slice (some ⟨b2, 0, none⟩) ((N.getD up n0).kids.length + 1) c2] := hU3.blk
  have hO3 := hO2.chg hU3.chg (fun k hk he => hO2.ne hk hb2 (by decide) he)
  refine zl_nil ?_
  refine zk_seq ?_
  refine zc_seq ?_
  refine zc_draw [] (fun w' => Blk w' (Q.getD up q0).b 80 [.int .i64 (N.getD up n0).kind, .int .i64 (N.getD up n0).space, .string (N.getD up n0).name, (Q.getD up q0).va, (Q.getD up q0).vt, .int .i64 (N.getD up n0).up, .slice (some ⟨b2, 0, none⟩) ((N.getD up n0).kids.length + 1) c2]) (.take 0 (.take 1 (.take 2 (.take 3 (.take 4 (.take 5 (.take 6 (.take 7 (.take 8 (.take 9 (.take 10 (.take 11 (.take 12 (.all1 13 (.fin))))))))))))))) (by rfl) (by kernel_rfl) (by kernel_rfl) (fun w1 hC1 hH1 => ⟨?_, ?_⟩)
  · exact hb3.no ‹Chg w3 _ No›
  have hC4 := ‹Chg w3 _ No›
  have hO4 := hO3.no hC4
  have hil := intC_len (N.getD up n0).kids
  have hmin : Nat.min ((N.getD up n0).kids.length + 1 - a) ((N.getD up n0).kids.length + 1 - (a + 1)) = (N.getD up n0).kids.length - a := by rw [show (N.getD up n0).kids.length + 1 - (a + 1) = (N.getD up n0).kids.length - a by omega]; exact Nat.min_eq_right (by omega)
  have hvl : (((intC (N.getD up n0).kids ++ [Value.int .i64 0]).drop (a * 1)).take (((N.getD up n0).kids.length - a) * 1)).length = (N.getD up n0).kids.length - a := by rw [List.length_take, List.length_drop, List.length_append]; simp only [List.length_singleton]; omega
  obtain ⟨cells, hB, hfit, hpre, hnew⟩ := hO4.lay (o := (a + 1) * 1) (vs := ((intC (N.getD up n0).kids ++ [Value.int .i64 0]).drop (a * 1)).take (((N.getD up n0).kids.length - a) * 1)) (by rw [hvl, List.length_append]; simp only [List.length_singleton]; omega) (fun u hu => hO4.2 u (List.mem_of_mem_drop (List.mem_of_mem_take hu)))
  rw [hvl] at hfit
  iterate 2 (refine zs_take rfl (zt_pure rfl ?_))
  refine zs_rdL rfl want_none rfl (by decide) (fun _ hS => r_fa rfl) ?_
  refine zs_rdL rfl want_none rfl (by decide) (fun _ hS => r_loadB rfl hS (by rfl)) ?_
  refine zs_take rfl (zt_pure rfl ?_)
  refine zs_rdL rfl want_none rfl (by decide) (fun _ hS => r_add rfl rfl (by omega) (by omega)) ?_
  refine zs_rdL rfl (by first | exact want_none | exact want_L rfl) rfl (by decide) (fun _ hS => r_cutFrom (k := a + 1) rfl rfl (by omega) (by omega)) ?_
  iterate 2 (refine zs_take rfl (zt_pure rfl ?_))
  refine zs_rdL rfl want_none rfl (by decide) (fun _ hS => r_fa rfl) ?_
  refine zs_rdL rfl want_none rfl (by decide) (fun _ hS => r_loadB rfl hS (by rfl)) ?_
  refine zs_take rfl (zt_pure rfl ?_)
  refine zs_rdL rfl (by first | exact want_none | exact want_L rfl) rfl (by decide) (fun _ hS => r_cutFrom (k := a) rfl rfl (by omega) (by omega)) ?_
  skip
  refine zs_copyG (o := (a + 1) * 1) rfl (by first | exact want_none | exact want_L rfl) (by decide) rfl rfl (hO4.rd.cut (k := a) (by omega)) hB (fun _ => by rw [cutA_at (by omega), Nat.zero_add]) (by rw [hmin]; omega) (fun w5 hU5 => ?_)
  rw [hmin] at hU5
  have hO5 := hnew w5 hU5
  have hb5 := (hb3.no hC4).chg hU5.chg (fun he => hbb he.symm)
  refine ⟨hb5, ?_⟩
  refine zs_fin ?_
  refine zk_seq ?_
  refine zc_seq ?_
  refine zc_region ?_
  iterate 2 (refine zl_pureL rfl ?_)
  refine z_fa want_none (by decide) rfl ?_
  refine z_loadB want_none (by decide) rfl (by assumption) (by rfl) ?_
  iterate 2 (refine zl_pureL rfl ?_)
  refine z_ia want_none (by decide) rfl rfl (by omega) (by omega) ?_
  obtain ⟨cells6, hB6, hfit6, hpre6, hnew6⟩ := hO5.lay (o := a) (vs := [.int .i64 ((n : Nat) : Int)]) (by rw [lay_len (by rw [hvl, List.length_append]; simp only [List.length_singleton]; omega), List.length_append]; simp only [List.length_singleton]; omega) (by simp [Value.oneCell'])
  refine z_store (o := a) (by first | exact want_none | exact want_L rfl) (ev_ptr rfl (by omega)) rfl rfl hB6 hfit6 (by simp [Value.cells, Value.oneCell']) (fun w6 hU6 => ?_)
  have hO6 := hnew6 w6 hU6
  have hb6 := hb5.chg hU6.chg (fun he => hbb he.symm)
  have e6 : Z.lay (Z.lay (intC (N.getD up n0).kids ++ [Value.int .i64 0]) ((a + 1) * 1) (((intC (N.getD up n0).kids ++ [Value.int .i64 0]).drop (a * 1)).take (((N.getD up n0).kids.length - a) * 1))) a [.int .i64 ((n : Nat) : Int)] = intC (insK (N.getD up n0).kids a n) := by
    rw [lay_one _ (by rw [lay_len (by rw [hvl, List.length_append]; simp only [List.length_singleton]; omega), List.length_append]; simp only [List.length_singleton]; omega), intC_ins]
    have := put_list (intC (N.getD up n0).kids) (.int .i64 0) (.int .i64 ((n : Nat) : Int)) a (by omega)
    rw [← this]
    unfold Z.lay
    rw [hvl, show (a + 1) * 1 = a + 1 by omega, show a * 1 = a by omega, show ((N.getD up n0).kids.length - a) * 1 = (intC (N.getD up n0).kids).length - a by omega, show a + 1 + ((N.getD up n0).kids.length - a) = (intC (N.getD up n0).kids).length + 1 by omega]
  rw [e6] at hO6
  have hS2 : ∀ i, i < w.heap.size → i = b2 → (i = (Q.getD up q0).b ∨ (Q.getD up q0).vk.ownBlock = some i) := fun i hi he => by
    subst he
    rcases hr2 with h1 | ⟨k, h1, h2⟩
    · exact .inr (h1 ▸ rfl)
    · simp only [Value.ownBlock, Option.some.injEq] at h1; have := hN1.size; omega
  have hC06 : Chg w w6 (fun i => i = (Q.getD up q0).b ∨ (Q.getD up q0).vk.ownBlock = some i) :=
    ((((hN1.chg.mono (fun _ _ h => h.elim)).trans hC2 (fun _ _ h => .inr h)).trans hU3.chg (fun _ _ h => .inl h)).no hC4 |>.trans hU5.chg hS2).trans hU6.chg hS2
  have hl6 : (insK (N.getD up n0).kids a n).length = (N.getD up n0).kids.length + 1 := by unfold insK; simp; omega
  have hn6 : NodeAt w6 ⟨(Q.getD up q0).b, (Q.getD up q0).va, (Q.getD up q0).vt, .slice (some ⟨b2, 0, none⟩) ((N.getD up n0).kids.length + 1) c2⟩ { N.getD up n0 with kids := insK (N.getD up n0).kids a n } := by
    refine ⟨hb6, ?_, ?_, ?_⟩
    · refine RdS.chg hA hC06 (fun b' cells hb hs => ?_)
      rcases hs with hs | hs
      · exact hb.ne hb0 (by decide) hs
      · exact hK.ne hs hb (by decide) rfl
    · refine hT.chg hC06 (fun k hk hs => ?_)
      rcases hs with hs | hs
      · exact hT.ne hk hb0 (by decide) hs
      · obtain ⟨cells, hb⟩ := hK.blk hs
        exact hT.ne hk hb (by decide) rfl
    · dsimp only; rw [hl6]; exact hO6
  obtain ⟨h6, hW6⟩ := h.set up hup hC06 (fun k hs => hs.imp id .inr) hn6 rfl (fun k hk => by
    rcases hk with hk | hk | hk
    · exact .inl (.inl hk)
    · exact .inl (.inr (.inl hk))
    · simp only [Value.ownBlock, Option.some.injEq] at hk
      rcases hr2 with h1 | ⟨j, h1, h2⟩
      · exact .inl (.inr (.inr (by rw [← hk, ← h1]; rfl)))
      · simp only [Value.ownBlock, Option.some.injEq] at h1; have := hN1.size; exact .inr (by omega))
  have hn6' : n < (N.set up { N.getD up n0 with kids := insK (N.getD up n0).kids a n }).length := by simpa using hn
  obtain ⟨b', o', c', hv', hp'⟩ := h6.ptr n hn6'
  have hblk6 := h6.blk
  rw [hv'] at hblk6
  have hnn := h6.at_ n hn6'
  have hqn : ∃ qn, qn = (Q.set up ⟨(Q.getD up q0).b, (Q.getD up q0).va, (Q.getD up q0).vt, .slice (some ⟨b2, 0, none⟩) ((N.getD up n0).kids.length + 1) c2⟩).getD n q0 := ⟨_, rfl⟩
  obtain ⟨⟨nb, na, nt, nk⟩, hqn⟩ := hqn
  rw [← hqn] at hnn hp'
  rw [getD_set _ _ _ _ _ hup, if_neg hne] at hnn
  have hbn := hnn.1
  dsimp only at hbn hp'
  refine zl_nil ?_
  refine zk_seq ?_
  refine zc_region ?_
  iterate 2 (refine zl_pureL rfl ?_)
  refine z_fa want_none (by decide) rfl ?_
  refine z_loadB want_none (by decide) rfl (by assumption) (by rfl) ?_
  refine zl_pureL rfl ?_
  refine z_ia want_none (by decide) rfl rfl (by omega) (by omega) ?_
  refine z_load1 (by first | exact want_none | exact want_L rfl) (by decide) rfl (cell_at hp' (by omega)) ?_
  iterate 2 (refine zl_pureL rfl ?_)
  refine z_fa want_none (by decide) rfl ?_
  refine z_store (by first | exact want_none | exact want_L rfl) rfl rfl rfl (by assumption) (by first | exact Nat.le_refl _ | simp [Value.cells]) (by simp [Value.cells, Value.oneCell']) (fun w7 hU7 => ?_)
  have hn7 := NodeAt.put (x' := { N.getD n n0 with up := up }) hnn hU7 rfl rfl rfl
  obtain ⟨h7, hW7⟩ := h6.set n hn6' (q' := ⟨nb, na, nt, nk⟩) hU7.chg (fun k hs => .inl (by rw [hs, ← hqn])) hn7 (by rw [← hqn]) (fun k hk => .inl (by rw [← hqn]; exact hk))
  refine zl_nil ?_
  exact zk_ret0 (.inl rfl) rfl ⟨rfl, _, h7, hW6.trans hW7⟩
theorem placeN_le {K : List Nat} {ahead : Int} {a : Nat} (h : placeN K ahead = some a) : a ≤ K.length := by
  unfold placeN at h
  split at h
  · cases h; exact Nat.le_refl _
  · split at h
    · have := findK_some _ h; omega
    · cases h
def PutOk (N : List ND) (n up ahead : Int) : Prop := isN N n ∧ isN N up ∧ (ndOf N up).kind = 1 ∧ n ≠ 0 ∧ (ndOf N n).up < 0 ∧ ¬ Anc N up.toNat n.toNat ∧ (placeN (ndOf N up).kids ahead).isSome = true
def PutR (N : List ND) (n up ahead : Int) (q : Bool) (N' : List ND) : Prop := (PutOk N n up ahead → q = true ∧ N' = layN N n.toNat up.toNat ((placeN (ndOf N up).kids ahead).getD 0)) ∧ (¬ PutOk N n up ahead → q = false ∧ N' = N)
theorem PutR.det {N N1 N2 : List ND} {n up ahead : Int} {q1 q2 : Bool} (h1 : PutR N n up ahead q1 N1) (h2 : PutR N n up ahead q2 N2) : q1 = q2 ∧ N1 = N2 := by
  by_cases h : PutOk N n up ahead
  · obtain ⟨a, b⟩ := h1.1 h; obtain ⟨c, d⟩ := h2.1 h; exact ⟨a.trans c.symm, b.trans d.symm⟩
  · obtain ⟨a, b⟩ := h1.2 h; obtain ⟨c, d⟩ := h2.2 h; exact ⟨a.trans c.symm, b.trans d.symm⟩
theorem PutOk.anc {N : List ND} {n up ahead : Int} (hW : WF N) (h : PutOk N n up ahead) : n.toNat < N.length ∧ up.toNat < N.length ∧ n.toNat ≠ 0 ∧ (N.getD n.toNat n0).up = -1 ∧ ¬ Anc N up.toNat n.toNat := by
  obtain ⟨h1, h2, h3, h4, h5, h6, h7⟩ := h
  obtain ⟨h1a, h1b⟩ := h1
  obtain ⟨h2a, h2b⟩ := h2
  have hn : n.toNat < N.length := by omega
  have := (hW.up n.toNat hn).1
  have : (N.getD n.toNat n0).up < 0 := h5
  exact ⟨hn, by omega, by omega, by omega, h6⟩
theorem PutR.wf {N N' : List ND} {n up ahead : Int} {q : Bool} (h : PutR N n up ahead q N') (hW : WF N) : WF N' ∧ N'.length = N.length := by
  by_cases ho : PutOk N n up ahead
  · obtain ⟨a, b, c, d, e⟩ := ho.anc hW
    rw [(h.1 ho).2]
    exact ⟨hW.lay _ a b d e c, layN_len _ _ _ _⟩
  · rw [(h.2 ho).2]; exact ⟨hW, rfl⟩
set_option maxHeartbeats 4000000 in
theorem put_calls {w : World} {p : Nat} {vl : Value} {Q : List PN} {N : List ND} (h : IsD w p vl Q N) (hW : WF N) (hl : N.length ≤ 100000) (n up ahead : Int) :
    Calls Try.prog 55 [.pointer (some ⟨p, 0, none⟩), .int .i64 n, .int .i64 up, .int .i64 ahead].toArray w fun e w' => ∃ q Q' N', e = .returned (.bool q) ∧ IsD w' p vl Q' N' ∧ WrD w w' p vl Q vl Q' ∧ PutR N n up ahead q N' := by
  have bad : ¬ PutOk N n up ahead → ∃ q Q' N', (Ending.returned (.bool false)) = .returned (.bool q) ∧ IsD w p vl Q' N' ∧ WrD w w p vl Q vl Q' ∧ PutR N n up ahead q N' := fun hn => ⟨false, Q, N, rfl, h, WrD.refl _ _ _ _, fun hh => absurd hh hn, fun _ => ⟨rfl, rfl⟩⟩
  refine calls_zc (n := 58) (f := 55) (fn := Try.f55) Try.func55 rfl rfl (by simp) ?_
  refine zc_seq ?_
  refine zc_region ?_
  refine zl_pureL rfl ?_
  refine zl_nil ?_
  refine zk_seq ?_
  iterate 2 (refine zc_seq ?_)
  refine zc_region ?_
  iterate 2 (refine zl_pureL rfl ?_)
  refine zl_call (by first | exact want_none | exact want_L rfl) rfl (by decide) rfl (is_calls h n) ?_
  rintro _ u ⟨rfl, hu⟩
  obtain rfl := hu.symm
  refine ⟨_, rfl, ?_⟩
  by_cases h1 : isN N n
  · rw [decide_eq_true h1]
    iterate 4 (refine zl_pureL rfl ?_)
    refine zl_call (by first | exact want_none | exact want_L rfl) rfl (by decide) rfl (elem_calls h up) ?_
    rintro _ u ⟨rfl, hu⟩
    obtain rfl := hu.symm
    refine ⟨_, rfl, ?_⟩
    by_cases h2 : isN N up ∧ (ndOf N up).kind = 1
    · rw [decide_eq_true h2]
      by_cases h3 : n = 0
      · iterate 4 (refine zl_pureL rfl ?_)
        refine z_cmpB (r := true) (want_L rfl) (by decide) rfl rfl rfl (iff_of_true rfl (by omega)) ?_
        iterate 4 (refine zl_pureL rfl ?_)
        iterate 2 (refine zl_skip rfl ?_)
        refine zl_pureL rfl ?_
        iterate 2 (refine zl_skip rfl ?_)
        refine zl_pureL rfl ?_
        iterate 3 (refine zl_skip rfl ?_)
        iterate 5 (refine zl_pureL rfl ?_)
        refine zl_skip rfl ?_
        refine zl_pureL rfl ?_
        refine zl_nil ?_
        refine zk_seq ?_
        refine zc_true rfl ?_
        refine zc_seq ?_
        refine zc_region ?_
        refine zl_pureL rfl ?_
        refine zl_nil ?_
        refine zk_seq ?_
        refine zc_ret ?_
        refine zk_ret_then ?_
        exact zk_ret1 (.inr rfl) rfl rfl (bad (fun hh => hh.2.2.2.1 h3))
      obtain ⟨i, rfl⟩ := Int.eq_ofNat_of_zero_le h1.1
      have hi : i < N.length := by have := h1.2; omega
      obtain ⟨b, o, c, hv, hp⟩ := h.ptr i hi
      have hb := h.blk
      rw [hv] at hb
      have hn := (h.at_ i hi).1
      iterate 4 (refine zl_pureL rfl ?_)
      refine z_cmpB (r := false) (want_L rfl) (by decide) rfl rfl rfl (iff_of_false Bool.false_ne_true (by omega)) ?_
      iterate 4 (refine zl_pureL rfl ?_)
      refine z_fa (want_L rfl) (by decide) rfl ?_
      refine z_loadB (want_L rfl) (by decide) rfl (by assumption) (by rfl) ?_
      refine zl_pureL rfl ?_
      refine z_ia (want_L rfl) (by decide) rfl rfl (by omega) (by omega) ?_
      refine z_load1 (by first | exact want_none | exact want_L rfl) (by decide) rfl (cell_at hp (by omega)) ?_
      by_cases h4 : 0 ≤ (N.getD i n0).up
      · refine zl_pureL rfl ?_
        refine z_fa (want_L rfl) (by decide) rfl ?_
        refine z_loadB (want_L rfl) (by decide) rfl (by assumption) (by rfl) ?_
        refine z_cmpB (r := true) (want_L rfl) (by decide) rfl rfl rfl (iff_of_true rfl (by omega)) ?_
        iterate 5 (refine zl_pureL rfl ?_)
        refine zl_skip rfl ?_
        refine zl_pureL rfl ?_
        refine zl_nil ?_
        refine zk_seq ?_
        refine zc_true rfl ?_
        refine zc_seq ?_
        refine zc_region ?_
        refine zl_pureL rfl ?_
        refine zl_nil ?_
        refine zk_seq ?_
        refine zc_ret ?_
        refine zk_ret_then ?_
        exact zk_ret1 (.inr rfl) rfl rfl (bad (fun hh => by have : (N.getD i n0).up < 0 := hh.2.2.2.2.1; omega))
      obtain ⟨j, rfl⟩ := Int.eq_ofNat_of_zero_le h2.1.1
      have hj : j < N.length := by have := h2.1.2; omega
      have hkj := hW.kids_len hj
      refine zl_pureL rfl ?_
      refine z_fa (want_L rfl) (by decide) rfl ?_
      refine z_loadB (want_L rfl) (by decide) rfl (by assumption) (by rfl) ?_
      refine z_cmpB (r := false) (want_L rfl) (by decide) rfl rfl rfl (iff_of_false Bool.false_ne_true (by omega)) ?_
      iterate 5 (refine zl_pureL rfl ?_)
      refine zl_call (by first | exact want_none | exact want_L rfl) rfl (by decide) rfl (below_calls h hW j i hj hi) ?_
      rintro _ u ⟨q1, rfl, hq1, hu⟩
      obtain rfl := hu.symm
      refine ⟨_, rfl, ?_⟩
      cases q1
      · have hna : ¬ Anc N j i := fun ha => absurd (hq1.2 ha) Bool.false_ne_true
        refine zl_pureL rfl ?_
        refine zl_nil ?_
        refine zk_seq ?_
        refine zc_false rfl ?_
        refine zc_skip ?_
        refine zk_seq ?_
        refine zc_seq ?_
        refine zc_region ?_
        iterate 3 (refine zl_pureL rfl ?_)
        refine zl_call (by first | exact want_none | exact want_L rfl) rfl (by decide) rfl (place_calls h hW j hj ahead (by omega)) ?_
        rintro _ u ⟨rfl, hu⟩
        obtain rfl := hu.symm
        refine ⟨_, rfl, ?_⟩
        cases hpl : placeN (N.getD j n0).kids ahead with
        | none =>
          iterate 5 (refine zl_pureL rfl ?_)
          refine zl_nil ?_
          refine zk_seq ?_
          iterate 2 (refine zc_seq ?_)
          refine zc_region ?_
          iterate 2 (refine zl_pureL rfl ?_)
          refine zl_nil ?_
          refine zk_seq ?_
          refine zc_true rfl ?_
          refine zc_seq ?_
          refine zc_region ?_
          refine zl_pureL rfl ?_
          refine zl_nil ?_
          refine zk_seq ?_
          refine zc_ret ?_
          refine zk_ret_then ?_
          exact zk_ret1 (.inr rfl) rfl rfl (bad (fun hh => by
            have : (placeN (N.getD j n0).kids ahead).isSome = true := hh.2.2.2.2.2.2
            rw [hpl] at this; cases this))
        | some a =>
          have hok : PutOk N i j ahead := ⟨h1, h2.1, h2.2, h3, by show (N.getD i n0).up < 0; omega, hna, by show (placeN (N.getD j n0).kids ahead).isSome = true; rw [hpl]; rfl⟩
          iterate 5 (refine zl_pureL rfl ?_)
          refine zl_nil ?_
          refine zk_seq ?_
          iterate 2 (refine zc_seq ?_)
          refine zc_region ?_
          iterate 2 (refine zl_pureL rfl ?_)
          refine zl_nil ?_
          refine zk_seq ?_
          refine zc_false rfl ?_
          refine zc_skip ?_
          refine zk_seq ?_
          refine zc_seq ?_
          refine zc_region ?_
          iterate 4 (refine zl_pureL rfl ?_)
          refine zl_call (by first | exact want_none | exact want_L rfl) rfl (by decide) rfl (lay_calls h i j a hi hj (fun he => hna (he ▸ Anc.refl i)) (placeN_le hpl) (by omega)) ?_
          rintro _ w2 ⟨rfl, Q', h2', hW2⟩
          refine ⟨_, rfl, ?_⟩
          refine zl_nil ?_
          refine zk_seq ?_
          refine zc_seq ?_
          refine zc_region ?_
          refine zl_pureL rfl ?_
          refine zl_nil ?_
          refine zk_seq ?_
          refine zc_ret ?_
          refine zk_ret1 (.inr rfl) rfl rfl ⟨true, Q', _, rfl, h2', hW2, fun _ => ⟨rfl, ?_⟩, fun hh => absurd hok hh⟩
          show _ = layN N i j ((placeN (N.getD j n0).kids ahead).getD 0)
          rw [hpl]; rfl
      · refine zl_pureL rfl ?_
        refine zl_nil ?_
        refine zk_seq ?_
        refine zc_true rfl ?_
        refine zc_seq ?_
        refine zc_region ?_
        refine zl_pureL rfl ?_
        refine zl_nil ?_
        refine zk_seq ?_
        refine zc_ret ?_
        refine zk_ret_then ?_
        exact zk_ret1 (.inr rfl) rfl rfl (bad (fun hh => hh.2.2.2.2.2.1 (hq1.1 rfl)))
    · rw [decide_eq_false h2]
      iterate 4 (refine zl_pureL rfl ?_)
      refine zl_skip rfl ?_
      iterate 4 (refine zl_pureL rfl ?_)
      iterate 2 (refine zl_skip rfl ?_)
      refine zl_pureL rfl ?_
      iterate 2 (refine zl_skip rfl ?_)
      refine zl_pureL rfl ?_
      iterate 3 (refine zl_skip rfl ?_)
      iterate 5 (refine zl_pureL rfl ?_)
      refine zl_skip rfl ?_
      refine zl_pureL rfl ?_
      refine zl_nil ?_
      refine zk_seq ?_
      refine zc_true rfl ?_
      refine zc_seq ?_
      refine zc_region ?_
      refine zl_pureL rfl ?_
      refine zl_nil ?_
      refine zk_seq ?_
      refine zc_ret ?_
      refine zk_ret_then ?_
      exact zk_ret1 (.inr rfl) rfl rfl (bad (fun hh => h2 ⟨hh.2.1, hh.2.2.1⟩))
  · rw [decide_eq_false h1]
    iterate 4 (refine zl_pureL rfl ?_)
    refine zl_skip rfl ?_
    iterate 4 (refine zl_pureL rfl ?_)
    refine zl_skip rfl ?_
    iterate 4 (refine zl_pureL rfl ?_)
    iterate 2 (refine zl_skip rfl ?_)
    refine zl_pureL rfl ?_
    iterate 2 (refine zl_skip rfl ?_)
    refine zl_pureL rfl ?_
    iterate 3 (refine zl_skip rfl ?_)
    iterate 5 (refine zl_pureL rfl ?_)
    refine zl_skip rfl ?_
    refine zl_pureL rfl ?_
    refine zl_nil ?_
    refine zk_seq ?_
    refine zc_true rfl ?_
    refine zc_seq ?_
    refine zc_region ?_
    refine zl_pureL rfl ?_
    refine zl_nil ?_
    refine zk_seq ?_
    refine zc_ret ?_
    refine zk_ret_then ?_
    exact zk_ret1 (.inr rfl) rfl rfl (bad (fun hh => h1 hh.1))
end Go.Proofs.Yteeibieaapiomaa.D
