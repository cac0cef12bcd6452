import Derived.Test.YteeibieaapiomaaSbB
import Derived.MapKept
/- DDoc4 -/
/- A node put among kids: lay, Put. -/
namespace Go.Proofs.Yteeibieaapiomaa.D
open Go Go.Z Go.Proofs
set_option linter.unusedVariables false
theorem ev_ptr {e : Env} {x : Operand} {b o o' : Nat} (h : ev e x = some (.pointer (some ⟨b, o, none⟩))) (ho : o = o') : ev e x = some (.pointer (some ⟨b, o', none⟩)) := by rw [h, ho]
theorem put_list {α : Type} (L : List α) (z x : α) (i : Nat) (hi : i ≤ L.length) : ((L ++ [z]).take (i + 1) ++ ((L ++ [z]).drop i).take (L.length - i) ++ (L ++ [z]).drop (L.length + 1)).set i x = L.take i ++ x :: L.drop i := by
  have h1 : ((L ++ [z]).drop i).take (L.length - i) = L.drop i := by
    rw [List.drop_append_of_le_length hi, List.take_append_of_le_length (by simp), List.take_of_length_le (by simp)]
  have h2 : (L ++ [z]).drop (L.length + 1) = [] := List.drop_eq_nil_of_le (by simp)
  rw [h1, h2, List.append_nil, List.set_append_left _ _ (by simp; omega)]
  rw [List.set_eq_take_append_cons_drop, if_pos (by rw [List.length_take]; simp; omega), List.take_take, Nat.min_eq_left (by omega), List.take_append_of_le_length hi, List.drop_of_length_le (by simp; omega)]
  simp
theorem intC_ins (K : List Nat) (a n : Nat) : intC (insK K a n) = (intC K).take a ++ .int .i64 ((n : Nat) : Int) :: (intC K).drop a := by simp [intC, insK, List.map_take, List.map_drop]
set_option maxHeartbeats 4000000 in
theorem lay_calls {w : World} {p : Nat} {vl : Value} {Q : List PN} {N : List ND} (h : IsD w p vl Q N) (n up a : Nat) (hn : n < N.length) (hup : up < N.length) (hne : n ≠ up) (ha : a ≤ (N.getD up n0).kids.length) (hk : (N.getD up n0).kids.length ≤ 100000) :
    Calls Try.prog 90 [.pointer (some ⟨p, 0, none⟩), .int .i64 n, .int .i64 up, .int .i64 a].toArray w fun e w' => e = .returned (.tuple #[]) ∧ ∃ Q', IsD w' p vl Q' (layN N n up a) ∧ WrD w w' p vl Q vl Q' := by
  obtain ⟨b, o, c, hv, hp⟩ := h.ptr up hup
  have hnode := h.at_ up hup
  obtain ⟨hb0, hA, hT, hK⟩ := hnode
  have hblk := h.blk
  rw [hv] at hblk
  have hQ : up < Q.length := by rw [h.len]; exact hup
  refine calls_zc (n := 56) (f := 90) (fn := Try.f90) Try.func90 rfl rfl (by simp) ?_
  refine zc_seq ?_
  refine zc_region ?_
  iterate 2 (refine zl_pureL rfl ?_)
  refine z_fa want_none (by decide) rfl ?_
  refine z_loadB want_none (by decide) rfl (by assumption) (by rfl) ?_
  refine zl_pureL rfl ?_
  refine z_ia want_none (by decide) rfl rfl (by omega) (by omega) ?_
  refine z_load1 (by first | exact want_none | exact want_L rfl) (by decide) rfl (cell_at hp (by omega)) ?_
  refine zl_pureL rfl ?_
  refine zl_nil ?_
  refine zk_seq ?_
  refine zc_seq ?_
  refine zc_region ?_
  iterate 3 (refine zl_pureL rfl ?_)
  refine z_fa want_none (by decide) rfl ?_
  refine z_loadB want_none (by decide) rfl (by assumption) (by rfl) ?_
  refine z_bs1 (by first | exact want_none | exact want_L rfl) (by decide) rfl (by rfl) (by rfl) (by decide) (by decide) (fun w1 b1 hN1 => ?_)
  have hK1 := hK.no hN1.chg
  refine z_appendO (by rfl) (by decide) (by first | exact want_none | exact want_L rfl) (by decide) rfl rfl hK1 (RdS.new (cs := [.int .i64 0]) (m := 1) hN1 rfl (by simp [Value.oneCell'])) (by omega) (by omega) (fun v2 w2 hO2 hC2 hr2 => ?_)
  have hb2 := (hb0.no hN1.chg).chg hC2 (fun he => hK1.ne he (hb0.no hN1.chg) (by decide) rfl)
  obtain ⟨hl2, hcs⟩ := hO2.cases
  rcases hcs with ⟨_, h0, _⟩ | ⟨b2, c2, junk, rfl, hc2, _⟩
  · omega
  have hbb : b2 ≠ (Q.getD up q0).b := hO2.ne rfl hb2 (by decide)
  refine zl_pureL rfl ?_
  refine z_fa want_none (by decide) rfl ?_
  refine z_store (by first | exact want_none | exact want_L rfl) rfl rfl rfl (by assumption) (by first | exact Nat.le_refl _ | simp [Value.cells]) (by simp [Value.cells, Value.oneCell']) (fun w3 hU3 => ?_)
  have hb3 : Blk w3 (Q.getD up q0).b 80 [.int .i64 (N.getD up n0).kind, .int .i64 (N.getD up n0).space, .string (N.getD up n0).name, (Q.getD up q0).va, (Q.getD up q0).vt, .int .i64 (N.getD up n0).up, .slice (some ⟨b2, 0, none⟩) ((N.getD up n0).kids.length + 1) c2] := hU3.blk
  have hO3 := hO2.chg hU3.chg (fun k hk he => hO2.ne hk hb2 (by decide) he)
  refine zl_nil ?_
  refine zk_seq ?_
  refine zc_seq ?_
  refine zc_draw [] (fun w' => Blk w' (Q.getD up q0).b 80 [.int .i64 (N.getD up n0).kind, .int .i64 (N.getD up n0).space, .string (N.getD up n0).name, (Q.getD up q0).va, (Q.getD up q0).vt, .int .i64 (N.getD up n0).up, .slice (some ⟨b2, 0, none⟩) ((N.getD up n0).kids.length + 1) c2]) (.take 0 (.take 1 (.take 2 (.take 3 (.take 4 (.take 5 (.take 6 (.take 7 (.take 8 (.take 9 (.take 10 (.take 11 (.take 12 (.all1 13 (.fin))))))))))))))) (by rfl) (by kernel_rfl) (by kernel_rfl) (fun w1 hC1 hH1 => ⟨?_, ?_⟩)
  · exact hb3.no ‹Chg w3 _ No›
  have hC4 := ‹Chg w3 _ No›
  have hO4 := hO3.no hC4
  have hil := intC_len (N.getD up n0).kids
  have hmin : Nat.min ((N.getD up n0).kids.length + 1 - a) ((N.getD up n0).kids.length + 1 - (a + 1)) = (N.getD up n0).kids.length - a := by rw [show (N.getD up n0).kids.length + 1 - (a + 1) = (N.getD up n0).kids.length - a by omega]; exact Nat.min_eq_right (by omega)
  have hvl : (((intC (N.getD up n0).kids ++ [Value.int .i64 0]).drop (a * 1)).take (((N.getD up n0).kids.length - a) * 1)).length = (N.getD up n0).kids.length - a := by rw [List.length_take, List.length_drop, List.length_append]; simp only [List.length_singleton]; omega
  obtain ⟨cells, hB, hfit, hpre, hnew⟩ := hO4.lay (o := (a + 1) * 1) (vs := ((intC (N.getD up n0).kids ++ [Value.int .i64 0]).drop (a * 1)).take (((N.getD up n0).kids.length - a) * 1)) (by rw [hvl, List.length_append]; simp only [List.length_singleton]; omega) (fun u hu => hO4.2 u (List.mem_of_mem_drop (List.mem_of_mem_take hu)))
  rw [hvl] at hfit
  iterate 2 (refine zs_take rfl (zt_pure rfl ?_))
  refine zs_rdL rfl want_none rfl (by decide) (fun _ hS => r_fa rfl) ?_
  refine zs_rdL rfl want_none rfl (by decide) (fun _ hS => r_loadB rfl hS (by rfl)) ?_
  refine zs_take rfl (zt_pure rfl ?_)
  refine zs_rdL rfl want_none rfl (by decide) (fun _ hS => r_add rfl rfl (by omega) (by omega)) ?_
  refine zs_rdL rfl (by first | exact want_none | exact want_L rfl) rfl (by decide) (fun _ hS => r_cutFrom (k := a + 1) rfl rfl (by omega) (by omega)) ?_
  iterate 2 (refine zs_take rfl (zt_pure rfl ?_))
  refine zs_rdL rfl want_none rfl (by decide) (fun _ hS => r_fa rfl) ?_
  refine zs_rdL rfl want_none rfl (by decide) (fun _ hS => r_loadB rfl hS (by rfl)) ?_
  refine zs_take rfl (zt_pure rfl ?_)
  refine zs_rdL rfl (by first | exact want_none | exact want_L rfl) rfl (by decide) (fun _ hS => r_cutFrom (k := a) rfl rfl (by omega) (by omega)) ?_
  skip
  refine zs_copyG (o := (a + 1) * 1) rfl (by first | exact want_none | exact want_L rfl) (by decide) rfl rfl (hO4.rd.cut (k := a) (by omega)) hB (fun _ => by rw [cutA_at (by omega), Nat.zero_add]) (by rw [hmin]; omega) (fun w5 hU5 => ?_)
  rw [hmin] at hU5
  have hO5 := hnew w5 hU5
  have hb5 := (hb3.no hC4).chg hU5.chg (fun he => hbb he.symm)
  refine ⟨hb5, ?_⟩
  refine zs_fin ?_
  refine zk_seq ?_
  refine zc_seq ?_
  refine zc_region ?_
  iterate 2 (refine zl_pureL rfl ?_)
  refine z_fa want_none (by decide) rfl ?_
  refine z_loadB want_none (by decide) rfl (by assumption) (by rfl) ?_
  iterate 2 (refine zl_pureL rfl ?_)
  refine z_ia want_none (by decide) rfl rfl (by omega) (by omega) ?_
  obtain ⟨cells6, hB6, hfit6, hpre6, hnew6⟩ := hO5.lay (o := a) (vs := [.int .i64 ((n : Nat) : Int)]) (by rw [lay_len (by rw [hvl, List.length_append]; simp only [List.length_singleton]; omega), List.length_append]; simp only [List.length_singleton]; omega) (by simp [Value.oneCell'])
  refine z_store (o := a) (by first | exact want_none | exact want_L rfl) (ev_ptr rfl (by omega)) rfl rfl hB6 hfit6 (by simp [Value.cells, Value.oneCell']) (fun w6 hU6 => ?_)
  have hO6 := hnew6 w6 hU6
  have hb6 := hb5.chg hU6.chg (fun he => hbb he.symm)
  have e6 : Z.lay (Z.lay (intC (N.getD up n0).kids ++ [Value.int .i64 0]) ((a + 1) * 1) (((intC (N.getD up n0).kids ++ [Value.int .i64 0]).drop (a * 1)).take (((N.getD up n0).kids.length - a) * 1))) a [.int .i64 ((n : Nat) : Int)] = intC (insK (N.getD up n0).kids a n) := by
    rw [lay_one _ (by rw [lay_len (by rw [hvl, List.length_append]; simp only [List.length_singleton]; omega), List.length_append]; simp only [List.length_singleton]; omega), intC_ins]
    have := put_list (intC (N.getD up n0).kids) (.int .i64 0) (.int .i64 ((n : Nat) : Int)) a (by omega)
    rw [← this]
    unfold Z.lay
    rw [hvl, show (a + 1) * 1 = a + 1 by omega, show a * 1 = a by omega, show ((N.getD up n0).kids.length - a) * 1 = (intC (N.getD up n0).kids).length - a by omega, show a + 1 + ((N.getD up n0).kids.length - a) = (intC (N.getD up n0).kids).length + 1 by omega]
  rw [e6] at hO6
  have hS2 : ∀ i, i < w.heap.size → i = b2 → (i = (Q.getD up q0).b ∨ (Q.getD up q0).vk.ownBlock = some i) := fun i hi he => by
    subst he
    rcases hr2 with h1 | ⟨k, h1, h2⟩
    · exact .inr (h1 ▸ rfl)
    · simp only [Value.ownBlock, Option.some.injEq] at h1; have := hN1.size; omega
  have hC06 : Chg w w6 (fun i => i = (Q.getD up q0).b ∨ (Q.getD up q0).vk.ownBlock = some i) :=
    ((((hN1.chg.mono (fun _ _ h => h.elim)).trans hC2 (fun _ _ h => .inr h)).trans hU3.chg (fun _ _ h => .inl h)).no hC4 |>.trans hU5.chg hS2).trans hU6.chg hS2
  have hl6 : (insK (N.getD up n0).kids a n).length = (N.getD up n0).kids.length + 1 := by unfold insK; simp; omega
  have hn6 : NodeAt w6 ⟨(Q.getD up q0).b, (Q.getD up q0).va, (Q.getD up q0).vt, .slice (some ⟨b2, 0, none⟩) ((N.getD up n0).kids.length + 1) c2⟩ { N.getD up n0 with kids := insK (N.getD up n0).kids a n } := by
    refine ⟨hb6, ?_, ?_, ?_⟩
    · refine RdS.chg hA hC06 (fun b' cells hb hs => ?_)
      rcases hs with hs | hs
      · exact hb.ne hb0 (by decide) hs
      · exact hK.ne hs hb (by decide) rfl
    · refine hT.chg hC06 (fun k hk hs => ?_)
      rcases hs with hs | hs
      · exact hT.ne hk hb0 (by decide) hs
      · obtain ⟨cells, hb⟩ := hK.blk hs
        exact hT.ne hk hb (by decide) rfl
    · dsimp only; rw [hl6]; exact hO6
  obtain ⟨h6, hW6⟩ := h.set up hup hC06 (fun k hs => hs.imp id .inr) hn6 rfl (fun k hk => by
    rcases hk with hk | hk | hk
    · exact .inl (.inl hk)
    · exact .inl (.inr (.inl hk))
    · simp only [Value.ownBlock, Option.some.injEq] at hk
      rcases hr2 with h1 | ⟨j, h1, h2⟩
      · exact .inl (.inr (.inr (by rw [← hk, ← h1]; rfl)))
      · simp only [Value.ownBlock, Option.some.injEq] at h1; have := hN1.size; exact .inr (by omega))
  have hn6' : n < (N.set up { N.getD up n0 with kids := insK (N.getD up n0).kids a n }).length := by simpa using hn
  obtain ⟨b', o', c', hv', hp'⟩ := h6.ptr n hn6'
  have hblk6 := h6.blk
  rw [hv'] at hblk6
  have hnn := h6.at_ n hn6'
  have hqn : ∃ qn, qn = (Q.set up ⟨(Q.getD up q0).b, (Q.getD up q0).va, (Q.getD up q0).vt, .slice (some ⟨b2, 0, none⟩) ((N.getD up n0).kids.length + 1) c2⟩).getD n q0 := ⟨_, rfl⟩
  obtain ⟨⟨nb, na, nt, nk⟩, hqn⟩ := hqn
  rw [← hqn] at hnn hp'
  rw [getD_set _ _ _ _ _ hup, if_neg hne] at hnn
  have hbn := hnn.1
  dsimp only at hbn hp'
  refine zl_nil ?_
  refine zk_seq ?_
  refine zc_region ?_
  iterate 2 (refine zl_pureL rfl ?_)
  refine z_fa want_none (by decide) rfl ?_
  refine z_loadB want_none (by decide) rfl (by assumption) (by rfl) ?_
  refine zl_pureL rfl ?_
  refine z_ia want_none (by decide) rfl rfl (by omega) (by omega) ?_
  refine z_load1 (by first | exact want_none | exact want_L rfl) (by decide) rfl (cell_at hp' (by omega)) ?_
  iterate 2 (refine zl_pureL rfl ?_)
  refine z_fa want_none (by decide) rfl ?_
  refine z_store (by first | exact want_none | exact want_L rfl) rfl rfl rfl (by assumption) (by first | exact Nat.le_refl _ | simp [Value.cells]) (by simp [Value.cells, Value.oneCell']) (fun w7 hU7 => ?_)
  have hn7 := NodeAt.put (x' := { N.getD n n0 with up := up }) hnn hU7 rfl rfl rfl
  obtain ⟨h7, hW7⟩ := h6.set n hn6' (q' := ⟨nb, na, nt, nk⟩) hU7.chg (fun k hs => .inl (by rw [hs, ← hqn])) hn7 (by rw [← hqn]) (fun k hk => .inl (by rw [← hqn]; exact hk))
  refine zl_nil ?_
  exact zk_ret0 (.inl rfl) rfl ⟨rfl, _, h7, hW6.trans hW7⟩
theorem placeN_le {K : List Nat} {ahead : Int} {a : Nat} (h : placeN K ahead = some a) : a ≤ K.length := by
  unfold placeN at h
  split at h
  · cases h; exact Nat.le_refl _
  · split at h
    · have := findK_some _ h; omega
    · cases h
def PutOk (N : List ND) (n up ahead : Int) : Prop := isN N n ∧ isN N up ∧ (ndOf N up).kind = 1 ∧ n ≠ 0 ∧ (ndOf N n).up < 0 ∧ ¬ Anc N up.toNat n.toNat ∧ (placeN (ndOf N up).kids ahead).isSome = true
def PutR (N : List ND) (n up ahead : Int) (q : Bool) (N' : List ND) : Prop := (PutOk N n up ahead → q = true ∧ N' = layN N n.toNat up.toNat ((placeN (ndOf N up).kids ahead).getD 0)) ∧ (¬ PutOk N n up ahead → q = false ∧ N' = N)
theorem PutR.det {N N1 N2 : List ND} {n up ahead : Int} {q1 q2 : Bool} (h1 : PutR N n up ahead q1 N1) (h2 : PutR N n up ahead q2 N2) : q1 = q2 ∧ N1 = N2 := by
  by_cases h : PutOk N n up ahead
  · obtain ⟨a, b⟩ := h1.1 h; obtain ⟨c, d⟩ := h2.1 h; exact ⟨a.trans c.symm, b.trans d.symm⟩
  · obtain ⟨a, b⟩ := h1.2 h; obtain ⟨c, d⟩ := h2.2 h; exact ⟨a.trans c.symm, b.trans d.symm⟩
theorem PutOk.anc {N : List ND} {n up ahead : Int} (hW : WF N) (h : PutOk N n up ahead) : n.toNat < N.length ∧ up.toNat < N.length ∧ n.toNat ≠ 0 ∧ (N.getD n.toNat n0).up = -1 ∧ ¬ Anc N up.toNat n.toNat := by
  obtain ⟨h1, h2, h3, h4, h5, h6, h7⟩ := h
  obtain ⟨h1a, h1b⟩ := h1
  obtain ⟨h2a, h2b⟩ := h2
  have hn : n.toNat < N.length := by omega
  have := (hW.up n.toNat hn).1
  have : (N.getD n.toNat n0).up < 0 := h5
  exact ⟨hn, by omega, by omega, by omega, h6⟩
theorem PutR.wf {N N' : List ND} {n up ahead : Int} {q : Bool} (h : PutR N n up ahead q N') (hW : WF N) : WF N' ∧ N'.length = N.length := by
  by_cases ho : PutOk N n up ahead
  · obtain ⟨a, b, c, d, e⟩ := ho.anc hW
    rw [(h.1 ho).2]
    exact ⟨hW.lay _ a b d e c, layN_len _ _ _ _⟩
  · rw [(h.2 ho).2]; exact ⟨hW, rfl⟩
set_option maxHeartbeats 4000000 in
theorem put_calls {w : World} {p : Nat} {vl : Value} {Q : List PN} {N : List ND} (h : IsD w p vl Q N) (hW : WF N) (hl : N.length ≤ 100000) (n up ahead : Int) :
    Calls Try.prog 55 [.pointer (some ⟨p, 0, none⟩), .int .i64 n, .int .i64 up, .int .i64 ahead].toArray w fun e w' => ∃ q Q' N', e = .returned (.bool q) ∧ IsD w' p vl Q' N' ∧ WrD w w' p vl Q vl Q' ∧ PutR N n up ahead q N' := by
  have bad : ¬ PutOk N n up ahead → ∃ q Q' N', (Ending.returned (.bool false)) = .returned (.bool q) ∧ IsD w p vl Q' N' ∧ WrD w w p vl Q vl Q' ∧ PutR N n up ahead q N' := fun hn => ⟨false, Q, N, rfl, h, WrD.refl _ _ _ _, fun hh => absurd hh hn, fun _ => ⟨rfl, rfl⟩⟩
  refine calls_zc (n := 58) (f := 55) (fn := Try.f55) Try.func55 rfl rfl (by simp) ?_
  refine zc_seq ?_
  refine zc_region ?_
  refine zl_pureL rfl ?_
  refine zl_nil ?_
  refine zk_seq ?_
  iterate 2 (refine zc_seq ?_)
  refine zc_region ?_
  iterate 2 (refine zl_pureL rfl ?_)
  refine zl_call (by first | exact want_none | exact want_L rfl) rfl (by decide) rfl (is_calls h n) ?_
  rintro _ u ⟨rfl, hu⟩
  obtain rfl := hu.symm
  refine ⟨_, rfl, ?_⟩
  by_cases h1 : isN N n
  · rw [decide_eq_true h1]
    iterate 4 (refine zl_pureL rfl ?_)
    refine zl_call (by first | exact want_none | exact want_L rfl) rfl (by decide) rfl (elem_calls h up) ?_
    rintro _ u ⟨rfl, hu⟩
    obtain rfl := hu.symm
    refine ⟨_, rfl, ?_⟩
    by_cases h2 : isN N up ∧ (ndOf N up).kind = 1
    · rw [decide_eq_true h2]
      by_cases h3 : n = 0
      · iterate 4 (refine zl_pureL rfl ?_)
        refine z_cmpB (r := true) (want_L rfl) (by decide) rfl rfl rfl (iff_of_true rfl (by omega)) ?_
        iterate 4 (refine zl_pureL rfl ?_)
        iterate 2 (refine zl_skip rfl ?_)
        refine zl_pureL rfl ?_
        iterate 2 (refine zl_skip rfl ?_)
        refine zl_pureL rfl ?_
        iterate 3 (refine zl_skip rfl ?_)
        iterate 5 (refine zl_pureL rfl ?_)
        refine zl_skip rfl ?_
        refine zl_pureL rfl ?_
        refine zl_nil ?_
        refine zk_seq ?_
        refine zc_true rfl ?_
        refine zc_seq ?_
        refine zc_region ?_
        refine zl_pureL rfl ?_
        refine zl_nil ?_
        refine zk_seq ?_
        refine zc_ret ?_
        refine zk_ret_then ?_
        exact zk_ret1 (.inr rfl) rfl rfl (bad (fun hh => hh.2.2.2.1 h3))
      obtain ⟨i, rfl⟩ := Int.eq_ofNat_of_zero_le h1.1
      have hi : i < N.length := by have := h1.2; omega
      obtain ⟨b, o, c, hv, hp⟩ := h.ptr i hi
      have hb := h.blk
      rw [hv] at hb
      have hn := (h.at_ i hi).1
      iterate 4 (refine zl_pureL rfl ?_)
      refine z_cmpB (r := false) (want_L rfl) (by decide) rfl rfl rfl (iff_of_false Bool.false_ne_true (by omega)) ?_
      iterate 4 (refine zl_pureL rfl ?_)
      refine z_fa (want_L rfl) (by decide) rfl ?_
      refine z_loadB (want_L rfl) (by decide) rfl (by assumption) (by rfl) ?_
      refine zl_pureL rfl ?_
      refine z_ia (want_L rfl) (by decide) rfl rfl (by omega) (by omega) ?_
      refine z_load1 (by first | exact want_none | exact want_L rfl) (by decide) rfl (cell_at hp (by omega)) ?_
      by_cases h4 : 0 ≤ (N.getD i n0).up
      · refine zl_pureL rfl ?_
        refine z_fa (want_L rfl) (by decide) rfl ?_
        refine z_loadB (want_L rfl) (by decide) rfl (by assumption) (by rfl) ?_
        refine z_cmpB (r := true) (want_L rfl) (by decide) rfl rfl rfl (iff_of_true rfl (by omega)) ?_
        iterate 5 (refine zl_pureL rfl ?_)
        refine zl_skip rfl ?_
        refine zl_pureL rfl ?_
        refine zl_nil ?_
        refine zk_seq ?_
        refine zc_true rfl ?_
        refine zc_seq ?_
        refine zc_region ?_
        refine zl_pureL rfl ?_
        refine zl_nil ?_
        refine zk_seq ?_
        refine zc_ret ?_
        refine zk_ret_then ?_
        exact zk_ret1 (.inr rfl) rfl rfl (bad (fun hh => by have : (N.getD i n0).up < 0 := hh.2.2.2.2.1; omega))
      obtain ⟨j, rfl⟩ := Int.eq_ofNat_of_zero_le h2.1.1
      have hj : j < N.length := by have := h2.1.2; omega
      have hkj := hW.kids_len hj
      refine zl_pureL rfl ?_
      refine z_fa (want_L rfl) (by decide) rfl ?_
      refine z_loadB (want_L rfl) (by decide) rfl (by assumption) (by rfl) ?_
      refine z_cmpB (r := false) (want_L rfl) (by decide) rfl rfl rfl (iff_of_false Bool.false_ne_true (by omega)) ?_
      iterate 5 (refine zl_pureL rfl ?_)
      refine zl_call (by first | exact want_none | exact want_L rfl) rfl (by decide) rfl (below_calls h hW j i hj hi) ?_
      rintro _ u ⟨q1, rfl, hq1, hu⟩
      obtain rfl := hu.symm
      refine ⟨_, rfl, ?_⟩
      cases q1
      · have hna : ¬ Anc N j i := fun ha => absurd (hq1.2 ha) Bool.false_ne_true
        refine zl_pureL rfl ?_
        refine zl_nil ?_
        refine zk_seq ?_
        refine zc_false rfl ?_
        refine zc_skip ?_
        refine zk_seq ?_
        refine zc_seq ?_
        refine zc_region ?_
        iterate 3 (refine zl_pureL rfl ?_)
        refine zl_call (by first | exact want_none | exact want_L rfl) rfl (by decide) rfl (place_calls h hW j hj ahead (by omega)) ?_
        rintro _ u ⟨rfl, hu⟩
        obtain rfl := hu.symm
        refine ⟨_, rfl, ?_⟩
        cases hpl : placeN (N.getD j n0).kids ahead with
        | none =>
          iterate 5 (refine zl_pureL rfl ?_)
          refine zl_nil ?_
          refine zk_seq ?_
          iterate 2 (refine zc_seq ?_)
          refine zc_region ?_
          iterate 2 (refine zl_pureL rfl ?_)
          refine zl_nil ?_
          refine zk_seq ?_
          refine zc_true rfl ?_
          refine zc_seq ?_
          refine zc_region ?_
          refine zl_pureL rfl ?_
          refine zl_nil ?_
          refine zk_seq ?_
          refine zc_ret ?_
          refine zk_ret_then ?_
          exact zk_ret1 (.inr rfl) rfl rfl (bad (fun hh => by
            have : (placeN (N.getD j n0).kids ahead).isSome = true := hh.2.2.2.2.2.2
            rw [hpl] at this; cases this))
        | some a =>
          have hok : PutOk N i j ahead := ⟨h1, h2.1, h2.2, h3, by show (N.getD i n0).up < 0; omega, hna, by show (placeN (N.getD j n0).kids ahead).isSome = true; rw [hpl]; rfl⟩
          iterate 5 (refine zl_pureL rfl ?_)
          refine zl_nil ?_
          refine zk_seq ?_
          iterate 2 (refine zc_seq ?_)
          refine zc_region ?_
          iterate 2 (refine zl_pureL rfl ?_)
          refine zl_nil ?_
          refine zk_seq ?_
          refine zc_false rfl ?_
          refine zc_skip ?_
          refine zk_seq ?_
          refine zc_seq ?_
          refine zc_region ?_
          iterate 4 (refine zl_pureL rfl ?_)
          refine zl_call (by first | exact want_none | exact want_L rfl) rfl (by decide) rfl (lay_calls h i j a hi hj (fun he => hna (he ▸ Anc.refl i)) (placeN_le hpl) (by omega)) ?_
          rintro _ w2 ⟨rfl, Q', h2', hW2⟩
          refine ⟨_, rfl, ?_⟩
          refine zl_nil ?_
          refine zk_seq ?_
          refine zc_seq ?_
          refine zc_region ?_
          refine zl_pureL rfl ?_
          refine zl_nil ?_
          refine zk_seq ?_
          refine zc_ret ?_
          refine zk_ret1 (.inr rfl) rfl rfl ⟨true, Q', _, rfl, h2', hW2, fun _ => ⟨rfl, ?_⟩, fun hh => absurd hok hh⟩
          show _ = layN N i j ((placeN (N.getD j n0).kids ahead).getD 0)
          rw [hpl]; rfl
      · refine zl_pureL rfl ?_
        refine zl_nil ?_
        refine zk_seq ?_
        refine zc_true rfl ?_
        refine zc_seq ?_
        refine zc_region ?_
        refine zl_pureL rfl ?_
        refine zl_nil ?_
        refine zk_seq ?_
        refine zc_ret ?_
        refine zk_ret_then ?_
        exact zk_ret1 (.inr rfl) rfl rfl (bad (fun hh => hh.2.2.2.2.2.1 (hq1.1 rfl)))
    · rw [decide_eq_false h2]
      iterate 4 (refine zl_pureL rfl ?_)
      refine zl_skip rfl ?_
      iterate 4 (refine zl_pureL rfl ?_)
      iterate 2 (refine zl_skip rfl ?_)
      refine zl_pureL rfl ?_
      iterate 2 (refine zl_skip rfl ?_)
      refine zl_pureL rfl ?_
      iterate 3 (refine zl_skip rfl ?_)
      iterate 5 (refine zl_pureL rfl ?_)
      refine zl_skip rfl ?_
      refine zl_pureL rfl ?_
      refine zl_nil ?_
      refine zk_seq ?_
      refine zc_true rfl ?_
      refine zc_seq ?_
      refine zc_region ?_
      refine zl_pureL rfl ?_
      refine zl_nil ?_
      refine zk_seq ?_
      refine zc_ret ?_
      refine zk_ret_then ?_
      exact zk_ret1 (.inr rfl) rfl rfl (bad (fun hh => h2 ⟨hh.2.1, hh.2.2.1⟩))
  · rw [decide_eq_false h1]
    iterate 4 (refine zl_pureL rfl ?_)
    refine zl_skip rfl ?_
    iterate 4 (refine zl_pureL rfl ?_)
    refine zl_skip rfl ?_
    iterate 4 (refine zl_pureL rfl ?_)
    iterate 2 (refine zl_skip rfl ?_)
    refine zl_pureL rfl ?_
    iterate 2 (refine zl_skip rfl ?_)
    refine zl_pureL rfl ?_
    iterate 3 (refine zl_skip rfl ?_)
    iterate 5 (refine zl_pureL rfl ?_)
    refine zl_skip rfl ?_
    refine zl_pureL rfl ?_
    refine zl_nil ?_
    refine zk_seq ?_
    refine zc_true rfl ?_
    refine zc_seq ?_
    refine zc_region ?_
    refine zl_pureL rfl ?_
    refine zl_nil ?_
    refine zk_seq ?_
    refine zc_ret ?_
    refine zk_ret_then ?_
    exact zk_ret1 (.inr rfl) rfl rfl (bad (fun hh => h1 hh.1))
end Go.Proofs.Yteeibieaapiomaa.D
/- DDoc5 -/
/- Text written: Write. -/
namespace Go.Proofs.Yteeibieaapiomaa.D
open Go Go.Z Go.Proofs
set_option linter.unusedVariables false
def WriteOk (N : List ND) (up ahead : Int) : Prop := isN N up ∧ (ndOf N up).kind = 1 ∧ (placeN (ndOf N up).kids ahead).isSome = true
def lastK (N : List ND) (up a : Nat) : Nat := (N.getD up n0).kids.getD (a - 1) 0
def textN (s : List UInt8) : ND := ⟨2, 0, ⟨#[]⟩, [], s, -1, []⟩
def writeN (N : List ND) (s : List UInt8) (up a : Nat) : List ND :=
  if s = [] then N else if 0 < a ∧ (N.getD (lastK N up a) n0).kind = 2 then N.set (lastK N up a) { N.getD (lastK N up a) n0 with text := (N.getD (lastK N up a) n0).text ++ s }
  else layN (N ++ [textN s]) N.length up a
def WriteR (N : List ND) (s : List UInt8) (up ahead : Int) (q : Bool) (N' : List ND) : Prop := (WriteOk N up ahead → q = true ∧ N' = writeN N s up.toNat ((placeN (ndOf N up).kids ahead).getD 0)) ∧ (¬ WriteOk N up ahead → q = false ∧ N' = N)
theorem WriteR.det {N N1 N2 : List ND} {s : List UInt8} {up ahead : Int} {q1 q2 : Bool} (h1 : WriteR N s up ahead q1 N1) (h2 : WriteR N s up ahead q2 N2) : q1 = q2 ∧ N1 = N2 := by
  by_cases h : WriteOk N up ahead
  · obtain ⟨a, b⟩ := h1.1 h; obtain ⟨c, d⟩ := h2.1 h; exact ⟨a.trans c.symm, b.trans d.symm⟩
  · obtain ⟨a, b⟩ := h1.2 h; obtain ⟨c, d⟩ := h2.2 h; exact ⟨a.trans c.symm, b.trans d.symm⟩
theorem Anc.fresh {N : List ND} (h : WF N) {n top : Nat} (hn : n < N.length) (hk : (N.getD top n0).kids = []) (ha : Anc N n top) : n = top := by
  rcases ha.kid h hn with h1 | ⟨k, h1⟩
  · exact h1
  · rw [hk] at h1; cases h1
theorem getD_mem {α : Type} {d : α} {l : List α} {k : Nat} (h : k < l.length) : l.getD k d ∈ l := by
  rw [List.getD_eq_getElem?_getD, List.getElem?_eq_getElem h]; exact List.getElem_mem h
theorem lastK_lt {N : List ND} (h : WF N) {up a : Nat} (hu : up < N.length) (ha : 0 < a) (hal : a ≤ (N.getD up n0).kids.length) : lastK N up a < N.length := by
  refine ((h.kid up _ hu).1 ?_).1
  exact getD_mem (by omega)
theorem writeN_wf {N : List ND} (h : WF N) (s : List UInt8) {up a : Nat} (hu : up < N.length) (hal : a ≤ (N.getD up n0).kids.length) : WF (writeN N s up a) ∧ (writeN N s up a).length ≤ N.length + 1 := by
  unfold writeN
  split
  · exact ⟨h, by omega⟩
  · split
    · rename_i hc
      have hlt := lastK_lt h hu hc.1 hal
      refine ⟨h.congr (by simp) (fun i => ?_) (fun i => ?_) ?_, by simp⟩
      · rw [getD_set _ _ _ _ _ hlt]; split
        · rename_i h1; rw [h1]
        · rfl
      · rw [getD_set _ _ _ _ _ hlt]; split
        · rename_i h1; rw [h1]
        · rfl
      · rw [getD_set _ _ _ _ _ hlt]; split
        · rename_i h1; rw [h1]
        · rfl
    · have h1 := h.add (x := textN s) rfl rfl
      refine ⟨h1.lay a (by simp) (by simp; omega) (by rw [getD_add, if_pos rfl]; rfl) (fun ha => ?_) (by have := h.pos; omega), by rw [layN_len]; simp⟩
      have := Anc.fresh h1 (by simp; omega) (by rw [getD_add, if_pos rfl]; rfl) ha
      omega
theorem WriteR.wf {N N' : List ND} {s : List UInt8} {up ahead : Int} {q : Bool} (h : WriteR N s up ahead q N') (hW : WF N) : WF N' ∧ N'.length ≤ N.length + 1 := by
  by_cases ho : WriteOk N up ahead
  · rw [(h.1 ho).2]
    obtain ⟨h1, h2, h3⟩ := ho
    obtain ⟨a, ha⟩ := Option.isSome_iff_exists.1 h3
    rw [ha]
    have := h1.1; have := h1.2
    exact writeN_wf hW s (by omega) (placeN_le ha)
  · rw [(h.2 ho).2]; exact ⟨hW, by omega⟩
theorem NodeAt.blkS {w : World} {q : PN} {x : ND} (h : NodeAt w q x) : Blk w q.b 80 [.int .i64 x.kind, .int .i64 x.space, .string x.name, q.va, q.vt, .int .i64 x.up, q.vk] := h.1
set_option maxHeartbeats 8000000 in
theorem write_calls {w : World} {p : Nat} {vl : Value} {Q : List PN} {N : List ND} (h : IsD w p vl Q N) (hW : WF N) (hl : N.length ≤ 100000) (s : List UInt8) (hs : s.length ≤ 100000) (ht : ∀ i, (N.getD i n0).text.length ≤ 1000000000) (up ahead : Int) :
    Calls Try.prog 80 [.pointer (some ⟨p, 0, none⟩), .string (bs s), .int .i64 up, .int .i64 ahead].toArray w fun e w' => ∃ q vl' Q' N', e = .returned (.bool q) ∧ IsD w' p vl' Q' N' ∧ WrD w w' p vl Q vl' Q' ∧ WriteR N s up ahead q N' := by
  have bad : ¬ WriteOk N up ahead → ∃ q vl' Q' N', (Ending.returned (.bool false)) = .returned (.bool q) ∧ IsD w p vl' Q' N' ∧ WrD w w p vl Q vl' Q' ∧ WriteR N s up ahead q N' := fun hn => ⟨false, vl, Q, N, rfl, h, WrD.refl _ _ _ _, fun hh => absurd hh hn, fun _ => ⟨rfl, rfl⟩⟩
  refine calls_zc (n := 76) (f := 80) (fn := Try.f80) Try.func80 rfl rfl (by simp) ?_
  refine zc_seq ?_
  refine zc_region ?_
  refine zl_pureL rfl ?_
  refine zl_nil ?_
  refine zk_seq ?_
  iterate 2 (refine zc_seq ?_)
  refine zc_region ?_
  iterate 2 (refine zl_pureL rfl ?_)
  refine zl_call (by first | exact want_none | exact want_L rfl) rfl (by decide) rfl (elem_calls h up) ?_
  rintro _ u ⟨rfl, hu⟩
  obtain rfl := hu.symm
  refine ⟨_, rfl, ?_⟩
  by_cases h2 : isN N up ∧ (ndOf N up).kind = 1
  · rw [decide_eq_true h2]
    obtain ⟨j, rfl⟩ := Int.eq_ofNat_of_zero_le h2.1.1
    have hj : j < N.length := by have := h2.1.2; omega
    have hkj := hW.kids_len hj
    refine zl_pureL rfl ?_
    refine zl_nil ?_
    refine zk_seq ?_
    refine zc_false rfl ?_
    refine zc_skip ?_
    refine zk_seq ?_
    refine zc_seq ?_
    refine zc_region ?_
    iterate 3 (refine zl_pureL rfl ?_)
    refine zl_call (by first | exact want_none | exact want_L rfl) rfl (by decide) rfl (place_calls h hW j hj ahead (by omega)) ?_
    rintro _ u ⟨rfl, hu⟩
    obtain rfl := hu.symm
    refine ⟨_, rfl, ?_⟩
    cases hpl : placeN (N.getD j n0).kids ahead with
    | none =>
      iterate 5 (refine zl_pureL rfl ?_)
      refine zl_nil ?_
      refine zk_seq ?_
      iterate 2 (refine zc_seq ?_)
      refine zc_region ?_
      iterate 4 (refine zl_pureL rfl ?_)
      refine zl_skip rfl ?_
      refine zl_pureL rfl ?_
      refine zl_nil ?_
      refine zk_seq ?_
      refine zc_true rfl ?_
      refine zc_seq ?_
      refine zc_region ?_
      iterate 2 (refine zl_pureL rfl ?_)
      refine zl_nil ?_
      refine zk_seq ?_
      refine zc_ret ?_
      refine zk_ret_then ?_
      exact zk_ret1 (.inr rfl) rfl rfl (bad (fun hh => by
        have : (placeN (N.getD j n0).kids ahead).isSome = true := hh.2.2
        rw [hpl] at this; cases this))
    | some a =>
      rw [show optV (some a) = Value.tuple #[.int .i64 ((a : Nat) : Int), .bool true] from rfl]
      have hal := placeN_le hpl
      have hok : WriteOk N j ahead := ⟨h2.1, h2.2, by show (placeN (N.getD j n0).kids ahead).isSome = true; rw [hpl]; rfl⟩
      have good : ∀ {w' vl' Q'}, IsD w' p vl' Q' (writeN N s j a) → WrD w w' p vl Q vl' Q' → ∃ q vl' Q' N', (Ending.returned (.bool true)) = .returned (.bool q) ∧ IsD w' p vl' Q' N' ∧ WrD w w' p vl Q vl' Q' ∧ WriteR N s j ahead q N' := fun h1 h2 =>
        ⟨true, _, _, _, rfl, h1, h2, fun _ => ⟨rfl, by show _ = writeN N s j ((placeN (N.getD j n0).kids ahead).getD 0); rw [hpl]; rfl⟩, fun hh => absurd hok hh⟩
      iterate 5 (refine zl_pureL rfl ?_)
      refine zl_nil ?_
      refine zk_seq ?_
      iterate 2 (refine zc_seq ?_)
      refine zc_region ?_
      iterate 4 (refine zl_pureL rfl ?_)
      refine z_eqS (by first | exact want_none | exact want_L rfl) (by decide) rfl rfl (fun hc => ?_) (fun hc => ?_)
      · have h0 : s = [] := by have : bs s = bs [] := by assumption
                               exact bs_inj.1 this
        refine zl_pureL rfl ?_
        refine zl_nil ?_
        refine zk_seq ?_
        refine zc_true rfl ?_
        refine zc_seq ?_
        refine zc_region ?_
        iterate 2 (refine zl_pureL rfl ?_)
        refine zl_nil ?_
        refine zk_seq ?_
        refine zc_ret ?_
        refine zk_ret_then ?_
        exact zk_ret1 (.inr rfl) rfl rfl (good (by unfold writeN; rw [if_pos h0]; exact h) (WrD.refl _ _ _ _))
      have h0 : ¬ s = [] := fun hh => by subst hh; exact absurd rfl (by assumption)
      have tail : ∀ (hlk : ¬ (0 < a ∧ (N.getD (lastK N j a) n0).kind = 2)), writeN N s j a = layN (N ++ [textN s]) N.length j a := fun hlk => by
        unfold writeN; rw [if_neg h0, if_neg hlk]
      have hsm : s.length ≤ maxLen := by simp [maxLen]; omega
      refine zl_pureL rfl ?_
      refine zl_nil ?_
      refine zk_seq ?_
      refine zc_false rfl ?_
      refine zc_skip ?_
      refine zk_seq ?_
      iterate 2 (refine zc_seq ?_)
      refine zc_region ?_
      refine zl_pureL rfl ?_
      refine z_cmpB (r := decide (0 < a)) (by first | exact want_none | exact want_L rfl) (by decide) rfl rfl rfl (by simp <;> omega) ?_
      refine zl_nil ?_
      refine zk_seq ?_
      refine zc_midT (fun u => u.heap.size ≥ w.heap.size ∧ Chg w u No ∧ ¬ (0 < a ∧ (N.getD (lastK N j a) n0).kind = 2)) [(0, .pointer (some ⟨p, 0, none⟩)), (1, .string (bs s)), (2, .int .i64 j), (9, .int .i64 a)] ?_ ?_
      · refine zc_cond rfl (fun hpos => ?_) (fun hz => ?_)
        · have hpos : 0 < a := of_decide_eq_true hpos
          obtain ⟨b, o, c, hv, hp⟩ := h.ptr j hj
          have hb := h.blk
          rw [hv] at hb
          obtain ⟨hn, hA, hT, hK⟩ := h.at_ j hj
          obtain ⟨A2, c2, hv2, hc2⟩ := hK.rd.form
          rw [hv2] at hn hK
          obtain ⟨bk, ok, ck, hvk, _, hck⟩ := RdS.some hK.rd (by omega)
          cases hvk
          have hcell := hck (a - 1) _ (intC_get _ (a - 1) (by omega))
          have hlk := lastK_lt hW hj hpos hal
          have hlkd : (N.getD j n0).kids.getD (a - 1) 0 = lastK N j a := rfl
          rw [hlkd] at hcell
          obtain ⟨b', o', c', hv', hp'⟩ := h.ptr (lastK N j a) hlk
          rw [hv] at hv'
          cases hv'
          have hnk := h.at_ (lastK N j a) hlk
          have hqn : ∃ qn, qn = Q.getD (lastK N j a) q0 := ⟨_, rfl⟩
          obtain ⟨⟨nb, na, nt, nk⟩, hqn⟩ := hqn
          rw [← hqn] at hnk hp'
          have hbn := hnk.1
          dsimp only at hbn hp'
          refine zc_seq ?_
          refine zc_draw [] (fun w' => Chg w w' No ∧ Blk w' p 102 [.slice (some ⟨b, o, none⟩) N.length c] ∧ Blk w' (Q.getD j q0).b 80 [.int .i64 (N.getD j n0).kind, .int .i64 (N.getD j n0).space, .string (N.getD j n0).name, (Q.getD j q0).va, (Q.getD j q0).vt, .int .i64 (N.getD j n0).up, .slice (some ⟨bk, ok, none⟩) (N.getD j n0).kids.length c2]) (.take 0 (.take 1 (.take 2 (.take 3 (.take 4 (.take 5 (.take 6 (.take 7 (.take 8 (.take 9 (.take 10 (.take 11 (.take 12 (.take 13 (.take 14 (.take 15 (.take 16 (.take 17 (.take 18 (.take 19 (.take 20 (.fin)))))))))))))))))))))) (by rfl) (by kernel_rfl) (by kernel_rfl) (fun w1 hC1 hH1 => ⟨?_, ?_⟩)
          · exact ⟨hC1, hb.no hC1, hn.no hC1⟩
          iterate 2 (refine zs_take rfl (zt_pure rfl ?_))
          refine zs_rdL rfl want_none rfl (by decide) (fun _ hS => r_fa rfl) ?_
          refine zs_rdL rfl want_none rfl (by decide) (fun _ hS => r_loadB rfl hS.2.1 (by rfl)) ?_
          iterate 2 (refine zs_take rfl (zt_pure rfl ?_))
          refine zs_rdL rfl want_none rfl (by decide) (fun _ hS => r_fa rfl) ?_
          refine zs_rdL rfl want_none rfl (by decide) (fun _ hS => r_loadB rfl hS.2.1 (by rfl)) ?_
          refine zs_take rfl (zt_pure rfl ?_)
          refine zs_rdL rfl want_none rfl (by decide) (fun _ hS => r_ia rfl rfl (by omega) (by omega)) ?_
          refine zs_rdL rfl (by first | exact want_none | exact want_L rfl) rfl (by decide) (fun _ hS => r_load1 rfl (cell_at (cell_no hS.1 hp) (by omega))) ?_
          refine zs_take rfl (zt_pure rfl ?_)
          refine zs_rdL rfl want_none rfl (by decide) (fun _ hS => r_fa rfl) ?_
          refine zs_rdL rfl want_none rfl (by decide) (fun _ hS => r_loadB rfl hS.2.2 (by rfl)) ?_
          refine zs_take rfl (zt_pure rfl ?_)
          refine zs_rdL rfl want_none rfl (by decide) (fun _ hS => r_sub rfl rfl (by omega) (by omega)) ?_
          refine zs_rdL rfl want_none rfl (by decide) (fun _ hS => r_ia rfl rfl (by omega) (by omega)) ?_
          refine zs_rdL rfl (by first | exact want_none | exact want_L rfl) rfl (by decide) (fun _ hS => r_load1 rfl (cell_at (cell_no hS.1 hcell) (by omega))) ?_
          refine zs_rdL rfl want_none rfl (by decide) (fun _ hS => r_ia rfl rfl (by omega) (by omega)) ?_
          refine zs_rdL rfl (by first | exact want_none | exact want_L rfl) rfl (by decide) (fun _ hS => r_load1 rfl (cell_at (cell_no hS.1 hp') (by omega))) ?_
          refine zs_take rfl (zt_pure rfl ?_)
          refine zs_fin ?_
          refine zk_seq ?_
          refine zc_seq ?_
          refine zc_region ?_
          iterate 2 (refine zl_pureL rfl ?_)
          refine z_fa want_none (by decide) rfl ?_
          have hbn1 := hbn.no hC1
          refine z_loadB want_none (by decide) rfl (by assumption) (by rfl) ?_
          by_cases hk2 : (N.getD (lastK N j a) n0).kind = 2
          · have hT1 : OwnB w1 5 nt _ := hnk.2.2.1.no hC1
            have htl := ht (lastK N j a)
            refine z_cmpB (r := true) want_none (by decide) rfl rfl rfl (iff_of_true rfl (by omega)) ?_
            refine zl_nil ?_
            refine zk_seq ?_
            refine zc_true rfl ?_
            refine zc_seq ?_
            refine zc_region ?_
            iterate 3 (refine zl_pureL rfl ?_)
            refine z_fa want_none (by decide) rfl ?_
            refine z_loadB want_none (by decide) rfl (by assumption) (by rfl) ?_
            refine zl_pureL rfl ?_
            refine z_appendB (by first | exact want_none | exact want_L rfl) (by decide) rfl rfl hT1 (by omega) (fun v2 w2 hO2 hC2 hr2 => ?_)
            have hbn2 := hbn1.chg hC2 (fun he => hT1.ne he hbn1 (by decide) rfl)
            obtain ⟨A3, c3, hv3, _⟩ := hO2.form
            subst hv3
            refine zl_pureL rfl ?_
            refine z_fa want_none (by decide) rfl ?_
            refine z_store (by first | exact want_none | exact want_L rfl) rfl rfl rfl (by assumption) (by first | exact Nat.le_refl _ | simp [Value.cells]) (by simp [Value.cells, Value.oneCell']) (fun w3 hU3 => ?_)
            have hO3 := hO2.chg hU3.chg (fun k hk he => hO2.ne hk hbn2 (by decide) he)
            have hnk1 := hnk.chg hC1 (fun _ _ => id) (fun _ _ _ => id)
            have hC13 : Chg w1 w3 (fun i => i = nb ∨ nt.ownBlock = some i) := (hC2.mono (fun _ _ h => .inr h)).trans hU3.chg (fun _ _ h => .inl h)
            have hdj : ∀ k, k = nb ∨ nt.ownBlock = some k → ∀ t cells, Blk w1 k t cells → t = 80 ∨ t = 5 := fun k hk t cells hb => by
              rcases hk with rfl | hk
              · exact .inl (hb.inj hbn1).1
              · by_cases h5 : t = 5
                · exact .inr h5
                · exact absurd rfl (hT1.ne hk hb (fun he => h5 he.symm))
            have hn3 : NodeAt w3 ⟨nb, na, .slice A3 ((N.getD (lastK N j a) n0).text ++ s).length c3, nk⟩ { N.getD (lastK N j a) n0 with text := (N.getD (lastK N j a) n0).text ++ s } := by
              refine ⟨hU3.blk, ?_, hO3, ?_⟩
              · refine RdS.chg hnk1.2.1 hC13 (fun b' cells hb hs => ?_)
                rcases hdj _ hs _ _ hb with h5 | h5 <;> cases h5
              · refine hnk1.2.2.2.chg hC13 (fun k hk hs => ?_)
                obtain ⟨cells, hb⟩ := hnk1.2.2.2.blk hk
                rcases hdj _ hs _ _ hb with h5 | h5 <;> cases h5
            have h1' := h.no hC1
            obtain ⟨h3, hW3⟩ := h1'.set (lastK N j a) hlk (q' := ⟨nb, na, .slice A3 ((N.getD (lastK N j a) n0).text ++ s).length c3, nk⟩) hC13 (fun k hs => by rw [← hqn]; exact hs.imp id .inl) hn3 (by rw [← hqn]) (fun k hk => by
              rw [← hqn]
              rcases hk with hk | hk | hk
              · exact .inl (.inl hk)
              · rcases hr2 with h5 | ⟨i, h5, h6⟩
                · exact .inl (.inr (.inl (h5 ▸ hk)))
                · rw [hk] at h5; cases h5; exact .inr h6
              · exact .inl (.inr (.inr hk)))
            refine zl_nil ?_
            refine zk_seq ?_
            refine zc_seq ?_
            refine zc_region ?_
            refine zl_pureL rfl ?_
            refine zl_nil ?_
            refine zk_seq ?_
            refine zc_ret ?_
            refine zk_ret_then ?_
            refine zk_ret1 (.inr rfl) rfl rfl (good ?_ (WrD.pre hC1 hW3))
            unfold writeN
            rw [if_neg h0, if_pos ⟨hpos, hk2⟩]
            exact h3
          · refine z_cmpB (r := false) want_none (by decide) rfl rfl rfl (iff_of_false Bool.false_ne_true (by omega)) ?_
            refine zl_nil ?_
            refine zk_seq ?_
            refine zc_false rfl ?_
            refine zc_skip ?_
            exact zk_mid ⟨hC1.size, hC1, fun hh => hk2 hh.2⟩ ⟨rfl, rfl, rfl, rfl, trivial⟩
        · have hz : ¬ 0 < a := of_decide_eq_false hz
          refine zc_skip ?_
          exact zk_mid ⟨Nat.le_refl _, Chg.refl _ _, fun hh => hz hh.1⟩ ⟨rfl, rfl, rfl, rfl, trivial⟩
      rintro w1 ⟨_, hC1, hlk⟩
      have htl := tail hlk
      refine zc_seq ?_
      refine zc_region ?_
      iterate 3 (refine zl_pureL rfl ?_)
      refine z_convSO (by first | exact want_none | exact want_L rfl) (by decide) rfl hsm (fun w2 b2 c2 hb2 hC2 hO2 => ?_)
      skip
      refine z_buildE #[.int .i64 2, .int .i64 0, .string ⟨#[]⟩, .slice none 0 0, .slice (some ⟨b2, 0, none⟩) s.length c2, .int .i64 0, .slice none 0 0] (by first | exact want_none | exact want_L rfl) (by decide) rfl (by kernel_rfl) ?_
      refine z_box (by first | exact want_none | exact want_L rfl) (by decide) rfl (fun w3 b3 hN3 => ?_)
      skip
      have hC02 := hC1.no hC2
      have hC3 := hC02.new hN3
      have hq : NodeAt w3 ⟨b3, .slice none 0 0, .slice (some ⟨b2, 0, none⟩) s.length c2, .slice none 0 0⟩ ⟨2, 0, ⟨#[]⟩, [], s, 0, []⟩ := ⟨hN3.blk, RdS.nil, hO2.no hN3.chg, .nil⟩
      have hge := hN3.ge hC02
      have hnf : ∀ k, nf ⟨b3, .slice none 0 0, .slice (some ⟨b2, 0, none⟩) s.length c2, .slice none 0 0⟩ k → w.heap.size ≤ k := by
        rintro k (rfl | hk | hk)
        · exact hge
        · simp [Value.ownBlock] at hk; have := hC1.size; omega
        · cases hk
      refine zl_call (by first | exact want_none | exact want_L rfl) rfl (by decide) rfl (add_calls (h.no hC3) hl hq (fun k hk hf => by have := hnf k hk; have := h.lt k hf; omega) rfl) ?_
      rintro _ w4 ⟨rfl, vl', g1, g2, g3, g4⟩
      refine ⟨_, rfl, ?_⟩
      have hWa := WrD.add hC3 hnf g2 g3 g4
      have hgj : (N ++ [textN s]).getD j n0 = N.getD j n0 := by rw [getD_add, if_neg (by omega)]
      iterate 2 (refine zl_pureL rfl ?_)
      refine zl_call (by first | exact want_none | exact want_L rfl) rfl (by decide) rfl (lay_calls (N := N ++ [textN s]) g1 N.length j a (by simp) (by simp; omega) (by omega) (by rw [hgj]; exact hal) (by rw [hgj]; omega)) ?_
      rintro _ w5 ⟨rfl, Q', h5, hW5⟩
      refine ⟨_, rfl, ?_⟩
      refine zl_nil ?_
      refine zk_seq ?_
      refine zc_seq ?_
      refine zc_region ?_
      refine zl_pureL rfl ?_
      refine zl_nil ?_
      refine zk_seq ?_
      refine zc_ret ?_
      exact zk_ret1 (.inr rfl) rfl rfl (good (by rw [htl]; exact h5) (hWa.trans hW5))
  · rw [decide_eq_false h2]
    refine zl_pureL rfl ?_
    refine zl_nil ?_
    refine zk_seq ?_
    refine zc_true rfl ?_
    refine zc_seq ?_
    refine zc_region ?_
    refine zl_pureL rfl ?_
    refine zl_nil ?_
    refine zk_seq ?_
    refine zc_ret ?_
    refine zk_ret_then ?_
    exact zk_ret1 (.inr rfl) rfl rfl (bad (fun hh => h2 ⟨hh.1, hh.2.1⟩))
end Go.Proofs.Yteeibieaapiomaa.D
/- DDoc6 -/
/- Take, Move. -/
namespace Go.Proofs.Yteeibieaapiomaa.D
open Go Go.Z Go.Proofs
set_option linter.unusedVariables false
theorem optI_eq {x : Option Operand} {e : Env} {d a b : Int} (h : optI x e d = some a) (hab : a = b) : optI x e d = some b := by rw [h, hab]
theorem lay_drop {α : Type} (l : List α) (i : Nat) (h : i < l.length) : (l.take i ++ l.drop (i + 1) ++ l.drop (l.length - 1)).take (l.length - 1) = l.take i ++ l.drop (i + 1) := by
  rw [List.take_append_of_le_length (by simp; omega), List.take_of_length_le (by simp; omega)]
def TakeOk (N : List ND) (n : Int) : Prop := isN N n ∧ 0 ≤ (ndOf N n).up
def TakeR (N : List ND) (n : Int) (q : Bool) (N' : List ND) : Prop := (TakeOk N n → q = true ∧ N' = takeN N n.toNat) ∧ (¬ TakeOk N n → q = false ∧ N' = N)
theorem TakeR.det {N N1 N2 : List ND} {n : Int} {q1 q2 : Bool} (h1 : TakeR N n q1 N1) (h2 : TakeR N n q2 N2) : q1 = q2 ∧ N1 = N2 := by
  by_cases h : TakeOk N n
  · obtain ⟨a, b⟩ := h1.1 h; obtain ⟨c, d⟩ := h2.1 h; exact ⟨a.trans c.symm, b.trans d.symm⟩
  · obtain ⟨a, b⟩ := h1.2 h; obtain ⟨c, d⟩ := h2.2 h; exact ⟨a.trans c.symm, b.trans d.symm⟩
theorem TakeR.wf {N N' : List ND} {n : Int} {q : Bool} (h : TakeR N n q N') (hW : WF N) : WF N' ∧ N'.length = N.length := by
  by_cases ho : TakeOk N n
  · rw [(h.1 ho).2]
    obtain ⟨⟨h1, h2⟩, h3⟩ := ho
    obtain ⟨u, hu⟩ := Int.eq_ofNat_of_zero_le h3
    exact ⟨hW.take (by omega) hu, takeN_len _ _⟩
  · rw [(h.2 ho).2]; exact ⟨hW, rfl⟩
end Go.Proofs.Yteeibieaapiomaa.D
/- DDoc7 -/
/- Move. -/
namespace Go.Proofs.Yteeibieaapiomaa.D
open Go Go.Z Go.Proofs
set_option linter.unusedVariables false
theorem set_self {α : Type} (l : List α) (i : Nat) (d : α) (hi : i < l.length) : l.set i (l.getD i d) = l := by
  apply List.ext_getElem?
  intro j
  rw [List.getElem?_set]
  by_cases h : i = j
  · subst h; rw [if_pos rfl, if_pos hi, List.getD_eq_getElem?_getD, List.getElem?_eq_getElem hi]; rfl
  · rw [if_neg h]
theorem upsN_snoc : ∀ (ks : List Nat) (N : List ND) (k b : Nat), upsN N (ks ++ [k]) b = (upsN N ks b).set k { (upsN N ks b).getD k n0 with up := b }
  | [], N, k, b => rfl
  | j :: r, N, k, b => by
    show upsN _ (r ++ [k]) b = _
    rw [upsN_snoc r]; rfl
theorem upsN_kids (N : List ND) (ks : List Nat) (b i : Nat) (h : ∀ k ∈ ks, k < N.length) : ((upsN N ks b).getD i n0).kids = (N.getD i n0).kids := by
  rw [upsN_get ks N b h]; split <;> rfl
def MoveOk (N : List ND) (a b : Int) : Prop := (isN N a ∧ (ndOf N a).kind = 1) ∧ (isN N b ∧ (ndOf N b).kind = 1) ∧ ¬ Anc N b.toNat a.toNat
def MoveR (N : List ND) (a b : Int) (q : Bool) (N' : List ND) : Prop := (MoveOk N a b → q = true ∧ N' = moveN N a.toNat b.toNat) ∧ (¬ MoveOk N a b → q = false ∧ N' = N)
theorem MoveR.det {N N1 N2 : List ND} {a b : Int} {q1 q2 : Bool} (h1 : MoveR N a b q1 N1) (h2 : MoveR N a b q2 N2) : q1 = q2 ∧ N1 = N2 := by
  by_cases h : MoveOk N a b
  · obtain ⟨x, y⟩ := h1.1 h; obtain ⟨c, d⟩ := h2.1 h; exact ⟨x.trans c.symm, y.trans d.symm⟩
  · obtain ⟨x, y⟩ := h1.2 h; obtain ⟨c, d⟩ := h2.2 h; exact ⟨x.trans c.symm, y.trans d.symm⟩
theorem MoveR.wf {N N' : List ND} {a b : Int} {q : Bool} (h : MoveR N a b q N') (hW : WF N) : WF N' ∧ N'.length = N.length := by
  by_cases ho : MoveOk N a b
  · rw [(h.1 ho).2]
    obtain ⟨⟨⟨h1, h2⟩, _⟩, ⟨⟨h3, h4⟩, _⟩, h5⟩ := ho
    exact ⟨hW.move (by omega) (by omega) h5, moveN_len _ _ _⟩
  · rw [(h.2 ho).2]; exact ⟨hW, rfl⟩
end Go.Proofs.Yteeibieaapiomaa.D
/- DDoc8 -/
/- Node, Tree. -/
namespace Go.Proofs.Yteeibieaapiomaa.D
open Go Go.Z Go.Proofs
set_option linter.unusedVariables false
theorem drop_cons {α : Type} (d : α) (l : List α) (k : Nat) (h : k < l.length) : l.drop k = l.getD k d :: l.drop (k + 1) := by
  rw [List.drop_eq_getElem_cons h, List.getD_eq_getElem?_getD, List.getElem?_eq_getElem h]; rfl
def nodeOf (N : List ND) (n : Int) : ND := if isN N n then ndOf N n else n0
def BigT (N : List ND) : Prop := ∀ i, (N.getD i n0).text.length ≤ 1000000000 ∧ (N.getD i n0).attrs.length ≤ 100000
set_option maxHeartbeats 4000000 in
theorem node_calls {w : World} {p : Nat} {vl : Value} {Q : List PN} {N : List ND} (h : IsD w p vl Q N) (hB : BigT N) (n : Int) :
    Calls Try.prog 31 [.pointer (some ⟨p, 0, none⟩), .int .i64 n].toArray w fun e w' => ∃ va, e = .returned (.agg #[.int .i64 (nodeOf N n).kind, .int .i64 (nodeOf N n).space, .string (nodeOf N n).name, va, .string (bs (nodeOf N n).text), .int .i64 0, .slice none 0 0]) ∧ AttrS w' va (nodeOf N n).attrs ∧ NewS w.heap.size va ∧ Chg w w' No := by
  refine calls_zc (n := 41) (f := 31) (fn := Try.f31) Try.func31 rfl rfl (by simp) ?_
  refine zc_seq ?_
  refine zc_region ?_
  refine z_alloc (by first | exact want_none | exact want_L rfl) (by decide) (fun w1 b1 hN1 => ?_)
  have hb1 : Blk w1 b1 52 [.int .i64 0, .int .i64 0, .string ⟨#[]⟩, .slice none 0 0, .string ⟨#[]⟩, .int .i64 0, .slice none 0 0] := hN1.blk
  have h1 := h.no hN1.chg
  have hge := hN1.ge (Chg.refl _ No)
  refine zl_nil ?_
  refine zk_seq ?_
  iterate 2 (refine zc_seq ?_)
  refine zc_region ?_
  iterate 2 (refine zl_pureL rfl ?_)
  refine zl_call (by first | exact want_none | exact want_L rfl) rfl (by decide) rfl (is_calls h1 n) ?_
  rintro _ u ⟨rfl, hu⟩
  obtain rfl := hu.symm
  refine ⟨_, rfl, ?_⟩
  by_cases h0 : isN N n
  · rw [decide_eq_true h0]
    have hx : nodeOf N n = ndOf N n := if_pos h0
    rw [hx]
    obtain ⟨i, rfl⟩ := Int.eq_ofNat_of_zero_le h0.1
    have hi : i < N.length := by have := h0.2; omega
    obtain ⟨b, o, c, hv, hp⟩ := h1.ptr i hi
    have hb := h1.blk
    rw [hv] at hb
    have hnn := h1.at_ i hi
    have hqn : ∃ qn, qn = Q.getD i q0 := ⟨_, rfl⟩
    obtain ⟨⟨nb, na, nt, nk⟩, hqn⟩ := hqn
    rw [← hqn] at hnn hp
    obtain ⟨hn, hA, hT, hK⟩ := hnn
    dsimp only at hn hA hT hK hp
    obtain ⟨hBt, hBa⟩ := hB i
    show ZL _ _ _ _ _ _ _
    obtain ⟨A2, c2, rfl, _⟩ := hA.form
    obtain ⟨A3, c3, rfl, _⟩ := hT.form
    refine zl_pureL rfl ?_
    refine zl_nil ?_
    refine zk_seq ?_
    refine zc_false rfl ?_
    refine zc_skip ?_
    refine zk_seq ?_
    refine zc_seq ?_
    refine zc_region ?_
    iterate 2 (refine zl_pureL rfl ?_)
    refine z_fa want_none (by decide) rfl ?_
    refine z_loadB want_none (by decide) rfl (by assumption) (by rfl) ?_
    refine zl_pureL rfl ?_
    refine z_ia want_none (by decide) rfl rfl (by omega) (by omega) ?_
    refine z_load1 (by first | exact want_none | exact want_L rfl) (by decide) rfl (cell_at hp (by omega)) ?_
    refine zl_pureL rfl ?_
    refine zl_nil ?_
    refine zk_seq ?_
    refine zc_seq ?_
    refine zc_draw [23] (fun w' => Chg w1 w' No ∧ Blk w' nb 80 [.int .i64 (N.getD i n0).kind, .int .i64 (N.getD i n0).space, .string (N.getD i n0).name, .slice A2 (N.getD i n0).attrs.length c2, .slice A3 (N.getD i n0).text.length c3, .int .i64 (N.getD i n0).up, nk] ∧ Blk w' b1 52 [.int .i64 0, .int .i64 0, .string ⟨#[]⟩, .slice none 0 0, .string ⟨#[]⟩, .int .i64 0, .slice none 0 0]) (.take 0 (.take 1 (.take 2 (.take 3 (.take 4 (.take 5 (.take 6 (.take 7 (.take 8 (.take 9 (.take 10 (.take 11 (.take 12 (.take 13 (.take 14 (.take 15 (.take 17 (.take 18 (.take 19 (.take 20 (.all2 16 (.all1 21 (.take 22 (.last 23))) 21 (.all1 16 (.take 22 (.last 23)))))))))))))))))))))))) (by rfl) (by kernel_rfl) (by kernel_rfl) (fun w2 hC2 _ => ⟨?_, ?_⟩)
    · exact ⟨hC2, hn.no hC2, hb1.no hC2⟩
    iterate 2 (refine zs_take rfl (zt_pure rfl ?_))
    refine zs_rdL rfl want_none rfl (by decide) (fun _ hS => r_fa rfl) ?_
    refine zs_rdL rfl want_none rfl (by decide) (fun _ hS => r_loadB rfl hS.2.1 (by rfl)) ?_
    iterate 2 (refine zs_take rfl (zt_pure rfl ?_))
    refine zs_rdL rfl want_none rfl (by decide) (fun _ hS => r_fa rfl) ?_
    refine zs_rdL rfl want_none rfl (by decide) (fun _ hS => r_loadB rfl hS.2.1 (by rfl)) ?_
    iterate 2 (refine zs_take rfl (zt_pure rfl ?_))
    refine zs_rdL rfl want_none rfl (by decide) (fun _ hS => r_fa rfl) ?_
    refine zs_rdL rfl want_none rfl (by decide) (fun _ hS => r_loadB rfl hS.2.1 (by rfl)) ?_
    iterate 2 (refine zs_take rfl (zt_pure rfl ?_))
    refine zs_rdL rfl want_none rfl (by decide) (fun _ hS => r_fa rfl) ?_
    refine zs_rdL rfl want_none rfl (by decide) (fun _ hS => r_loadB rfl hS.2.1 (by rfl)) ?_
    iterate 2 (refine zs_take rfl (zt_pure rfl ?_))
    refine zs_rdL rfl want_none rfl (by decide) (fun _ hS => r_fa rfl) ?_
    refine zs_rdL rfl want_none rfl (by decide) (fun _ hS => r_loadB rfl hS.2.1 (by rfl)) ?_
    refine zs_two ?_ ?_
    · refine zo_call rfl (by first | exact want_none | exact want_L rfl) rfl (by decide) rfl (copied_calls (hA.no hC2) hBa) ?_
      rintro _ w3 ⟨va, rfl, ha3, hn3, hC3⟩
      have hC3 := hC2.no hC3
      obtain ⟨A4, c4, rfl, _⟩ := ha3.form
      refine ⟨_, rfl, ⟨hC3, hn.no hC3, hb1.no hC3⟩, ?_⟩
      skip
      refine zs_run rfl (by first | exact want_none | exact want_L rfl) rfl (by decide) (r_convBS rfl (hT.no hC3).rb) ⟨hC3, hn.no hC3, hb1.no hC3⟩ ?_
      skip
      refine zs_rdL rfl (by first | exact want_none | exact want_L rfl) rfl (by decide) (fun _ hS => r_build' (cells := #[.int .i64 (N.getD i n0).kind, .int .i64 (N.getD i n0).space, .string (N.getD i n0).name, .slice A4 (N.getD i n0).attrs.length c4, .string (bs (N.getD i n0).text), .int .i64 0, .slice none 0 0]) rfl (by kernel_rfl)) ?_
      have hb3 := hb1.no hC3
      refine zs_storeL rfl (by first | exact want_none | exact want_L rfl) rfl rfl rfl (by assumption) (by first | exact Nat.le_refl _ | simp [Value.cells]) (by simp [Value.cells, Value.oneCell']) (fun w4 hU4 => ?_)
      have hb4 : Blk w4 b1 52 [.int .i64 (N.getD i n0).kind, .int .i64 (N.getD i n0).space, .string (N.getD i n0).name, .slice A4 (N.getD i n0).attrs.length c4, .string (bs (N.getD i n0).text), .int .i64 0, .slice none 0 0] := hU4.blk
      have hs := hN1.size
      have hlt := hb3.lt
      refine zk_seq ?_
      refine zc_ret ?_
      refine zk_retC (.inr rfl) rfl rfl hb4 rfl ⟨_, rfl, RdS.chg ha3 hU4.chg (fun b cells hb he => hb.ne hb3 (by decide) he), fun k hk => ?_, (hN1.chg.no hC3).upd hU4 hge⟩
      have := hn3 k hk; have := hC2.size; omega
    · refine zo_run rfl (by first | exact want_none | exact want_L rfl) rfl (by decide) (r_convBS rfl (hT.no hC2).rb) ⟨hC2, hn.no hC2, hb1.no hC2⟩ ?_
      skip
      refine zs_call rfl (by first | exact want_none | exact want_L rfl) rfl (by decide) rfl (copied_calls (hA.no hC2) hBa) ?_
      rintro _ w3 ⟨va, rfl, ha3, hn3, hC3⟩
      have hC3 := hC2.no hC3
      obtain ⟨A4, c4, rfl, _⟩ := ha3.form
      refine ⟨_, rfl, ⟨hC3, hn.no hC3, hb1.no hC3⟩, ?_⟩
      skip
      refine zs_rdL rfl (by first | exact want_none | exact want_L rfl) rfl (by decide) (fun _ hS => r_build' (cells := #[.int .i64 (N.getD i n0).kind, .int .i64 (N.getD i n0).space, .string (N.getD i n0).name, .slice A4 (N.getD i n0).attrs.length c4, .string (bs (N.getD i n0).text), .int .i64 0, .slice none 0 0]) rfl (by kernel_rfl)) ?_
      have hb3 := hb1.no hC3
      refine zs_storeL rfl (by first | exact want_none | exact want_L rfl) rfl rfl rfl (by assumption) (by first | exact Nat.le_refl _ | simp [Value.cells]) (by simp [Value.cells, Value.oneCell']) (fun w4 hU4 => ?_)
      have hb4 : Blk w4 b1 52 [.int .i64 (N.getD i n0).kind, .int .i64 (N.getD i n0).space, .string (N.getD i n0).name, .slice A4 (N.getD i n0).attrs.length c4, .string (bs (N.getD i n0).text), .int .i64 0, .slice none 0 0] := hU4.blk
      have hs := hN1.size
      have hlt := hb3.lt
      refine zk_seq ?_
      refine zc_ret ?_
      refine zk_retC (.inr rfl) rfl rfl hb4 rfl ⟨_, rfl, RdS.chg ha3 hU4.chg (fun b cells hb he => hb.ne hb3 (by decide) he), fun k hk => ?_, (hN1.chg.no hC3).upd hU4 hge⟩
      have := hn3 k hk; have := hC2.size; omega
  · rw [decide_eq_false h0]
    have hx : nodeOf N n = n0 := if_neg h0
    rw [hx]
    refine zl_pureL rfl ?_
    refine zl_nil ?_
    refine zk_seq ?_
    refine zc_true rfl ?_
    refine zc_seq ?_
    refine zc_region ?_
    refine z_buildE #[.int .i64 0, .int .i64 0, .string ⟨#[]⟩, .slice none 0 0, .string ⟨#[]⟩, .int .i64 0, .slice none 0 0] (by first | exact want_none | exact want_L rfl) (by decide) rfl (by kernel_rfl) ?_
    refine z_store (by first | exact want_none | exact want_L rfl) rfl rfl rfl (by assumption) (by first | exact Nat.le_refl _ | simp [Value.cells]) (by simp [Value.cells, Value.oneCell']) (fun w2 hU2 => ?_)
    have hb2 : Blk w2 b1 52 [.int .i64 0, .int .i64 0, .string ⟨#[]⟩, .slice none 0 0, .string ⟨#[]⟩, .int .i64 0, .slice none 0 0] := hU2.blk
    refine zl_nil ?_
    refine zk_seq ?_
    refine zc_ret ?_
    refine zk_ret_then ?_
    exact zk_retC (.inr rfl) rfl rfl hb2 rfl ⟨.slice none 0 0, rfl, AttrS.nil _, (fun k hk => by cases hk), hN1.chg.upd hU2 hge⟩
set_option maxHeartbeats 8000000 in
theorem tree_calls {N : List ND} (hW : WF N) (hl : N.length ≤ 100000) (hB : BigT N) : ∀ (f : Nat) {w : World} {p : Nat} {vl : Value} {Q : List PN} (h : IsD w p vl Q N) (n : Nat) (hn : n < N.length) (t : NT), TF N (N.getD n n0).kids t → t.size ≤ f →
    Calls Try.prog 39 [.pointer (some ⟨p, 0, none⟩), .int .i64 n].toArray w fun e w' => ∃ vo, e = .returned vo ∧ TreeOk w' (fun b => w.heap.size ≤ b) (fun b => w.heap.size ≤ b) vo t ∧ Chg w w' No := by
  intro f
  induction f with
  | zero =>
    intro w p vl Q h n hn t ht hf
    have hk0 : (N.getD n n0).kids.length = 0 := by rw [← ht.len]; have := t.len_size; omega
    have ht0 : t = .nil := by cases t with
      | nil => rfl
      | cons x k r => simp [NT.size] at hf
    subst ht0
    obtain ⟨b, o, c, hv, hp⟩ := h.ptr n hn
    have hb := h.blk
    rw [hv] at hb
    obtain ⟨hnb, _, _, hK⟩ := h.at_ n hn
    obtain ⟨A2, c2, hv2, _⟩ := hK.rd.form
    rw [hv2] at hnb
    refine calls_zc (n := 49) (f := 39) (fn := Try.f39) Try.func39 rfl rfl (by simp) ?_
    refine zc_seq ?_
    refine zc_region ?_
    refine zl_pureL rfl ?_
    refine zl_nil ?_
    refine zk_seq ?_
    iterate 2 (refine zc_seq ?_)
    refine zc_region ?_
    iterate 2 (refine zl_pureL rfl ?_)
    refine zl_call (by first | exact want_none | exact want_L rfl) rfl (by decide) rfl (is_calls h n) ?_
    rintro _ u ⟨rfl, hu⟩
    obtain rfl := hu.symm
    refine ⟨_, rfl, ?_⟩
    rw [decide_eq_true (show isN N n from ⟨by omega, by omega⟩)]
    refine zl_pureL rfl ?_
    refine zl_nil ?_
    refine zk_seq ?_
    refine zc_false rfl ?_
    refine zc_skip ?_
    refine zk_seq ?_
    refine zc_seq ?_
    refine zc_region ?_
    iterate 2 (refine zl_pureL rfl ?_)
    refine z_fa want_none (by decide) rfl ?_
    refine z_loadB want_none (by decide) rfl (by assumption) (by rfl) ?_
    refine zl_pureL rfl ?_
    refine z_ia want_none (by decide) rfl rfl (by omega) (by omega) ?_
    refine z_load1 (by first | exact want_none | exact want_L rfl) (by decide) rfl (cell_at hp (by omega)) ?_
    refine zl_pureL rfl ?_
    refine z_fa want_none (by decide) rfl ?_
    refine z_loadB want_none (by decide) rfl (by assumption) (by rfl) ?_
    refine zl_pureL rfl ?_
    refine zl_nil ?_
    refine zk_seq ?_
    iterate 2 (refine zc_seq ?_)
    refine zc_region ?_
    refine zl_pureL rfl ?_
    refine z_len want_none (by decide) rfl ?_
    refine z_cmpB (r := true) want_none (by decide) rfl rfl rfl (iff_of_true rfl (by omega)) ?_
    refine zl_nil ?_
    refine zk_seq ?_
    refine zc_true rfl ?_
    refine zc_seq ?_
    refine zc_region ?_
    refine zl_pureL rfl ?_
    refine zl_nil ?_
    refine zk_seq ?_
    refine zc_ret ?_
    refine zk_ret_then ?_
    exact zk_ret1 (.inr rfl) rfl rfl ⟨_, rfl, TreeOk.nil, Chg.refl _ _⟩
  | succ f ih =>
    intro w p vl Q h n hn t ht hf
    have htl := ht.len
    have hkl := hW.kids_len hn
    obtain ⟨b, o, c, hv, hp⟩ := h.ptr n hn
    have hb := h.blk
    rw [hv] at hb
    obtain ⟨hnb, _, _, hK⟩ := h.at_ n hn
    obtain ⟨A2, c2, hv2, _⟩ := hK.rd.form
    rw [hv2] at hnb
    refine calls_zc (n := 49) (f := 39) (fn := Try.f39) Try.func39 rfl rfl (by simp) ?_
    refine zc_seq ?_
    refine zc_region ?_
    refine zl_pureL rfl ?_
    refine zl_nil ?_
    refine zk_seq ?_
    iterate 2 (refine zc_seq ?_)
    refine zc_region ?_
    iterate 2 (refine zl_pureL rfl ?_)
    refine zl_call (by first | exact want_none | exact want_L rfl) rfl (by decide) rfl (is_calls h n) ?_
    rintro _ u ⟨rfl, hu⟩
    obtain rfl := hu.symm
    refine ⟨_, rfl, ?_⟩
    rw [decide_eq_true (show isN N n from ⟨by omega, by omega⟩)]
    refine zl_pureL rfl ?_
    refine zl_nil ?_
    refine zk_seq ?_
    refine zc_false rfl ?_
    refine zc_skip ?_
    refine zk_seq ?_
    refine zc_seq ?_
    refine zc_region ?_
    iterate 2 (refine zl_pureL rfl ?_)
    refine z_fa want_none (by decide) rfl ?_
    refine z_loadB want_none (by decide) rfl (by assumption) (by rfl) ?_
    refine zl_pureL rfl ?_
    refine z_ia want_none (by decide) rfl rfl (by omega) (by omega) ?_
    refine z_load1 (by first | exact want_none | exact want_L rfl) (by decide) rfl (cell_at hp (by omega)) ?_
    by_cases h0 : (N.getD n n0).kids.length = 0
    · have ht0 := len0 (htl.trans h0)
      subst ht0
      refine zl_pureL rfl ?_
      refine z_fa want_none (by decide) rfl ?_
      refine z_loadB want_none (by decide) rfl (by assumption) (by rfl) ?_
      refine zl_pureL rfl ?_
      refine zl_nil ?_
      refine zk_seq ?_
      iterate 2 (refine zc_seq ?_)
      refine zc_region ?_
      refine zl_pureL rfl ?_
      refine z_len want_none (by decide) rfl ?_
      refine z_cmpB (r := true) want_none (by decide) rfl rfl rfl (iff_of_true rfl (by omega)) ?_
      refine zl_nil ?_
      refine zk_seq ?_
      refine zc_true rfl ?_
      refine zc_seq ?_
      refine zc_region ?_
      refine zl_pureL rfl ?_
      refine zl_nil ?_
      refine zk_seq ?_
      refine zc_ret ?_
      refine zk_ret_then ?_
      exact zk_ret1 (.inr rfl) rfl rfl ⟨_, rfl, TreeOk.nil, Chg.refl _ _⟩
    refine zl_pureL rfl ?_
    refine z_fa want_none (by decide) rfl ?_
    refine z_loadB want_none (by decide) rfl (by assumption) (by rfl) ?_
    refine zl_pureL rfl ?_
    refine zl_nil ?_
    refine zk_seq ?_
    iterate 2 (refine zc_seq ?_)
    refine zc_region ?_
    refine zl_pureL rfl ?_
    refine z_len want_none (by decide) rfl ?_
    refine z_cmpB (r := false) want_none (by decide) rfl rfl rfl (iff_of_false Bool.false_ne_true (by omega)) ?_
    refine zl_nil ?_
    refine zk_seq ?_
    refine zc_false rfl ?_
    refine zc_skip ?_
    refine zk_seq ?_
    refine zc_seq ?_
    refine zc_region ?_
    refine zl_pureL rfl ?_
    refine z_len want_none (by decide) rfl ?_
    refine z_make (by first | exact want_none | exact want_L rfl) (by decide) rfl rfl (Nat.zero_le _) (by omega) (by omega) (fun w1 b1 hN1 => ?_)
    have hO1 : Own w1 52 7 _ 0 [] := Own.made hN1 (by unfold maxLen; omega)
    have hOut1 : Out w.heap.size (fun b => w.heap.size ≤ b) w1 (.slice (some ⟨b1, 0, none⟩) 0 (N.getD n n0).kids.length) .nil := ⟨[], hO1, (fun k hk => by simp [Value.ownBlock] at hk; subst hk; exact hN1.ge (Chg.refl _ No)), rfl⟩
    refine zl_pureL rfl ?_
    refine zl_nil ?_
    refine zk_seq ?_
    iterate 2 (refine zc_seq ?_)
    refine zc_region ?_
    refine zl_pureL rfl ?_
    refine z_len want_none (by decide) rfl ?_
    refine zl_pureL rfl ?_
    refine zl_nil ?_
    refine zk_seq ?_
    refine zc_block ?_
    refine zc_loopW (ι := Nat × Value × NT) (fun q u => [(0, .pointer (some ⟨p, 0, none⟩)), (6, q.2.1), (30, .slice A2 (N.getD n n0).kids.length c2), (31, .int .i64 (N.getD n n0).kids.length), (32, .int .i64 q.1)])
      (fun q u => q.1 ≤ t.len ∧ Out w.heap.size (fun b => w.heap.size ≤ b) u q.2.1 q.2.2 ∧ q.2.2.len = q.1 ∧ q.2.2.app (t.dropN q.1) = t ∧ Chg w u No) (fun q u => t.len - q.1) (0, .slice (some ⟨b1, 0, none⟩) 0 (N.getD n n0).kids.length, .nil)
      ⟨Nat.zero_le _, hOut1, rfl, rfl, hN1.chg⟩ ?_ ?_
    · exact ⟨rfl, rfl, rfl, rfl, rfl, trivial⟩
    rintro ⟨i, vo, T⟩ u ⟨hi, hOut, hTl, hd, hC⟩
    dsimp only at hi hOut hTl hd ⊢
    by_cases hlt : i < t.len
    · obtain ⟨bk, ok, ck, hvk, _, hck⟩ := RdS.some hK.rd (by omega)
      rw [hv2] at hvk
      cases hvk
      have hcell := cell_no hC (hck i _ (intC_get _ i (by omega)))
      have hik : i < (N.getD n n0).kids.length := by omega
      have hdr := ht.drop i
      have hdc : (N.getD n n0).kids.drop i = (N.getD n n0).kids.getD i 0 :: (N.getD n n0).kids.drop (i + 1) := drop_cons 0 _ _ hik
      rw [hdc] at hdr
      have hkn : (N.getD n n0).kids.getD i 0 < N.length := ((hW.kid n _ hn).1 (getD_mem hik)).1
      have hnx : ∃ nk, nk = (N.getD n n0).kids.getD i 0 := ⟨_, rfl⟩
      obtain ⟨nk, hnke⟩ := hnx
      rw [← hnke] at hcell hdr hkn
      have hsz := t.drop_size i
      have e1 : ∃ tk tr, t.dropN i = .cons (hdOf (N.getD nk n0)) tk tr ∧ TF N (N.getD nk n0).kids tk := by
        generalize t.dropN i = s at hdr
        cases hdr with
        | cons _ _ tk tr h1 h2 => exact ⟨tk, tr, rfl, h1⟩
      obtain ⟨tk, tr, e1, htk⟩ := e1
      rw [e1] at hsz
      simp only [NT.size] at hsz
      have hnd : nodeOf N (nk : Nat) = N.getD nk n0 := if_pos ⟨by omega, by omega⟩
      refine zc_seq ?_
      refine zc_region ?_
      refine z_cmpB (r := true) want_none (by decide) rfl rfl rfl (iff_of_true rfl (by omega)) ?_
      refine zl_nil ?_
      refine zk_seq ?_
      refine zc_seq ?_
      refine zc_true rfl ?_
      refine zc_skip ?_
      refine zk_seq ?_
      refine zc_seq ?_
      refine zc_block ?_
      refine zc_seq ?_
      refine zc_region ?_
      refine z_ia want_none (by decide) rfl rfl (by omega) (by omega) ?_
      refine z_load1 (by first | exact want_none | exact want_L rfl) (by decide) rfl (cell_at hcell (by omega)) ?_
      refine zl_pureL rfl ?_
      refine zl_nil ?_
      refine zk_seq ?_
      refine zc_seq ?_
      refine zc_region ?_
      iterate 2 (refine zl_pureL rfl ?_)
      refine zl_call (by first | exact want_none | exact want_L rfl) rfl (by decide) rfl (node_calls (h.no hC) hB (nk : Nat)) ?_
      rintro _ u1 ⟨va, rfl, ha1, hn1, hC1⟩
      rw [hnd] at ha1 ⊢
      refine ⟨_, rfl, ?_⟩
      obtain ⟨A4, c4, rfl, _⟩ := ha1.form
      skip
      refine z_alloc (by first | exact want_none | exact want_L rfl) (by decide) (fun u2 b2 hN2 => ?_)
      have hb2 : Blk u2 b2 52 [.int .i64 0, .int .i64 0, .string ⟨#[]⟩, .slice none 0 0, .string ⟨#[]⟩, .int .i64 0, .slice none 0 0] := hN2.blk
      skip
      refine z_store (by first | exact want_none | exact want_L rfl) rfl rfl rfl (by assumption) (by first | exact Nat.le_refl _ | simp [Value.cells]) (by simp [Value.cells, Value.oneCell']) (fun u3 hU3 => ?_)
      have hb3 : Blk u3 b2 52 [.int .i64 (N.getD nk n0).kind, .int .i64 (N.getD nk n0).space, .string (N.getD nk n0).name, .slice A4 (N.getD nk n0).attrs.length c4, .string (bs (N.getD nk n0).text), .int .i64 0, .slice none 0 0] := hU3.blk
      have hC3 : Chg u u3 No := (hC1.new hN2).upd hU3 (hN2.ge hC1)
      have ha3 : AttrS u3 (.slice A4 (N.getD nk n0).attrs.length c4) (N.getD nk n0).attrs := RdS.upd (ha1.no hN2.chg) hU3 (by decide)
      refine zl_nil ?_
      refine zk_seq ?_
      refine zc_seq ?_
      refine zc_region ?_
      iterate 2 (refine zl_pureL rfl ?_)
      refine zl_call (by first | exact want_none | exact want_L rfl) rfl (by decide) rfl (ih (h.no (hC.no hC3)) nk hkn tk htk (by omega)) ?_
      rintro _ u4 ⟨v4, rfl, hT4, hC4⟩
      refine ⟨_, rfl, ?_⟩
      obtain ⟨A5, c5, rfl, _⟩ := hT4.at'.form
      have hb4 := hb3.no hC4
      have hge2 := hN2.ge hC1
      have hs3 := hC3.size
      have hs4 := hC4.size
      have hlt2 := hb3.lt
      refine z_fa want_none (by decide) rfl ?_
      refine z_store (by first | exact want_none | exact want_L rfl) rfl rfl rfl (by assumption) (by first | exact Nat.le_refl _ | simp [Value.cells]) (by simp [Value.cells, Value.oneCell']) (fun u5 hU5 => ?_)
      have hb5 : Blk u5 b2 52 [.int .i64 (N.getD nk n0).kind, .int .i64 (N.getD nk n0).space, .string (N.getD nk n0).name, .slice A4 (N.getD nk n0).attrs.length c4, .string (bs (N.getD nk n0).text), .int .i64 0, .slice A5 tk.len c5] := hU5.blk
      have hC5 : Chg u u5 No := (hC3.no hC4).upd hU5 hge2
      have hT5 := hT4.chg hU5.chg (fun b _ _ hk he => by omega) (fun b cells hk _ he => hk.ne hb4 (by decide) he)
      have ha5 : AttrS u5 (.slice A4 (N.getD nk n0).attrs.length c4) (N.getD nk n0).attrs := RdS.upd (ha3.no hC4) hU5 (by decide)
      have hOut5 := hOut.no hC5
      have hvlt : ∀ k, vo.ownBlock = some k → k < u.heap.size := fun k hk => by obtain ⟨ms, g1, _, _⟩ := hOut; exact g1.lt hk
      obtain ⟨A0, c0, hv0, hc0⟩ := hOut.form
      obtain ⟨ms, g1, g2, g3⟩ := hOut5
      have hml := Rows.len _ ms (RowsOk.rows _ ms g3)
      have hBu : w.heap.size ≤ u.heap.size := hC.size
      refine zl_nil ?_
      refine zk_seq ?_
      refine zc_region ?_
      refine zl_pureL rfl ?_
      refine z_loadAB want_none (by decide) rfl (by assumption) (by rfl) ?_
      refine z_bs1 (by first | exact want_none | exact want_L rfl) (by decide) rfl (by rfl) (by rfl) (by decide) (by decide) (fun u10 b10 hN10 => ?_)
      have hx9 : HR u5 ⟨(N.getD nk n0).kind, (N.getD nk n0).space, (N.getD nk n0).name, .slice A4 (N.getD nk n0).attrs.length c4, bs (N.getD nk n0).text, 0, .slice A5 tk.len c5⟩ (hdOf (N.getD nk n0)) := ⟨rfl, rfl, rfl, ha5, rfl, rfl⟩
      have hR : RdS u10 52 7 (.slice (some ⟨b10, 0, none⟩) 1 1) 1 (encN [⟨(N.getD nk n0).kind, (N.getD nk n0).space, (N.getD nk n0).name, .slice A4 (N.getD nk n0).attrs.length c4, bs (N.getD nk n0).text, 0, .slice A5 tk.len c5⟩]) := by
        obtain ⟨ks, h1, _, _⟩ := hT5
        exact RdS.node hx9 h1 hN10
      refine z_appendO (by rfl) (by decide) (by first | exact want_none | exact want_L rfl) (by decide) rfl rfl (g1.no hN10.chg) hR (by omega) (by omega) (fun v11 u11 hO11 hC11 hr11 => ?_)
      have hOut11 := Out.push g1 g2 g3 hx9 (by intro hl b hb; have := hn1 b (by simpa [Value.ownBlock] using hb); omega)
        (hT5.mono (fun b hb hk => ⟨by omega, fun he => by have := hvlt b he; omega⟩) (fun b hb hk => by omega)) (Nat.le_trans hBu hC5.size) hN10.chg hO11 hC11 hr11
      refine zl_pureL rfl ?_
      refine zl_nil ?_
      refine zk_norm_block ?_
      refine zk_seq ?_
      refine zc_region ?_
      refine z_add want_none (by decide) rfl rfl (by omega) (by omega) ?_
      refine zl_pureL rfl ?_
      refine zl_nil ?_
      refine zk_loopW (i + 1, v11, T.snoc (hdOf (N.getD nk n0)) tk) ⟨by omega, hOut11, by rw [NT.snoc_len, hTl], ?_, ?_⟩ (by show t.len - (i + 1) < t.len - i; omega) ⟨rfl, rfl, rfl, rfl, get_int rfl (by simp), trivial⟩
      · dsimp only
        rw [t.drop_succ i _ tk tr e1, NT.snoc_app, ← e1]; exact hd
      · refine ((hC.trans hC5 (fun _ _ h => h)).no hN10.chg).trans hC11 (fun i hi he => ?_)
        have := g2 i he; omega
    · obtain rfl : i = t.len := by omega
      rw [t.drop_len, NT.app_nil] at hd
      subst hd
      refine zc_seq ?_
      refine zc_region ?_
      refine z_cmpB (r := false) want_none (by decide) rfl rfl rfl (iff_of_false Bool.false_ne_true (by omega)) ?_
      refine zl_nil ?_
      refine zk_seq ?_
      refine zc_seq ?_
      refine zc_false rfl ?_
      refine zc_exit ?_
      iterate 2 (refine zk_exit_then ?_)
      refine zk_exit_block ?_
      refine zk_seq ?_
      refine zc_seq ?_
      refine zc_region ?_
      iterate 2 (refine zl_pureL rfl ?_)
      refine zl_nil ?_
      refine zk_seq ?_
      refine zc_ret ?_
      exact zk_ret1 (.inr rfl) rfl rfl ⟨_, rfl, hOut.tree, hC⟩
end Go.Proofs.Yteeibieaapiomaa.D
/- DKnown -/
/- What the laws share: a Doc made since; known; within. -/
namespace Go.Proofs.Yteeibieaapiomaa.D
open Go Go.Z Go.Proofs
set_option linter.unusedVariables false
/-- a Doc that was made since w0 -/
structure DF (w0 w : World) (p : Nat) (vl : Value) (Q : List PN) (N : List ND) : Prop where
  is : IsD w p vl Q N
  ge : ∀ k, foot p vl Q k → w0.heap.size ≤ k
  chg : Chg w0 w No
  wf : WF N
section
variable {w0 w w' : World} {p : Nat} {vl vl' : Value} {Q Q' : List PN} {N N' : List ND}
theorem DF.no (h : DF w0 w p vl Q N) (hc : Chg w w' No) : DF w0 w' p vl Q N := ⟨h.is.no hc, h.ge, h.chg.no hc, h.wf⟩
theorem DF.wr (h : DF w0 w p vl Q N) (hi : IsD w' p vl' Q' N') (hw : WrD w w' p vl Q vl' Q') (hf : WF N') : DF w0 w' p vl' Q' N' :=
  ⟨hi, fun k hk => (hw.ft k hk).elim (h.ge k) (fun h1 => Nat.le_trans h.chg.size h1), h.chg.trans hw.chg (fun i hi hk => by have := h.ge i hk; omega), hf⟩
theorem DF.chgW (h : DF w0 w p vl Q N) (hw : WrD w w' p vl Q vl' Q') : Chg w0 w' No := h.chg.trans hw.chg (fun i hi hk => by have := h.ge i hk; omega)
/-- what is no part of the Doc stays -/
theorem DF.blk (h : DF w0 w p vl Q N) (hw : WrD w w' p vl Q vl' Q') {b t : Nat} {cs : List Value} (hb : Blk w b t cs) (h1 : t ≠ 102) (h2 : t ≠ 76) (h3 : t ≠ 80) (h4 : t ≠ 5) (h5 : t ≠ 3) : Blk w' b t cs := by
  refine hb.chg hw.chg ?_
  rintro (he | he | ⟨i, hi, he⟩)
  · exact hb.ne h.is.blk h1 he
  · exact h.is.row.ne he hb (Ne.symm h2) rfl
  · exact (h.is.at_ i (by rw [← h.is.len]; exact hi)).ne he hb h3 h4 h5 rfl
theorem AttrS.wr {va : Value} {l : List At} (ha : AttrS w va l) (hw : WrD w w' p vl Q vl' Q') : AttrS w' va l := by
  obtain ⟨h1, h2, A, c, h3, h4, h5⟩ := ha
  refine ⟨h1, h2, A, c, h3, h4, fun hm => ?_⟩
  obtain ⟨b, o, cells, h6, h7, h8⟩ := h5 hm
  exact ⟨b, o, cells, h6, hw.k45 b cells h7, h8⟩
end
theorem BigT.of {N : List ND} (h : ∀ x ∈ N, x.text.length ≤ 1000000000 ∧ x.attrs.length ≤ 100000) : BigT N := fun i => by
  rcases Nat.lt_or_ge i N.length with hi | hi
  · exact h _ (getD_mem hi)
  · rw [List.getD_eq_getElem?_getD, List.getElem?_eq_none hi]; exact ⟨Nat.zero_le _, Nat.zero_le _⟩
theorem BigT.text {N : List ND} (h : BigT N) : ∀ i, (N.getD i n0).text.length ≤ 1000000000 := fun i => (h i).1
def kn1 : List ND := [⟨1, 1, ⟨#[]⟩, [], [], -1, [1]⟩, ⟨2, 0, ⟨#[]⟩, [], [97], 0, []⟩]
def kn2 : List ND := [⟨1, 1, ⟨#[]⟩, [], [], -1, [1]⟩, ⟨2, 0, ⟨#[]⟩, [], [97, 98], 0, []⟩]
theorem kn1_eq : writeN rootN [97] 0 0 = kn1 := by rfl
theorem kn2_eq : writeN kn1 [98] 0 1 = kn2 := by rfl
section
variable {w0 w : World} {p : Nat} {vl : Value} {Q : List PN} {N : List ND}
theorem DF.write (h : DF w0 w p vl Q N) (hl : N.length ≤ 100000) (hB : BigT N) (s : List UInt8) (hs : s.length ≤ 100000) {sb : ByteArray} (hsb : sb = bs s) (up ahead : Int) (N' : List ND) (hok : WriteOk N up ahead) (hN : writeN N s up.toNat ((placeN (ndOf N up).kids ahead).getD 0) = N') :
    Calls Try.prog 80 [.pointer (some ⟨p, 0, none⟩), .string sb, .int .i64 up, .int .i64 ahead].toArray w fun e w' => e = .returned (.bool true) ∧ ∃ vl' Q', DF w0 w' p vl' Q' N' ∧ WrD w w' p vl Q vl' Q' := by
  subst hsb
  refine (write_calls h.is h.wf hl s hs hB.text up ahead).mono ?_
  rintro e w' ⟨q, vl', Q', N2, rfl, hI, hW, hR⟩
  obtain ⟨rfl, rfl⟩ := hR.1 hok
  have hf := (hR.wf h.wf).1
  rw [hN] at hI hf
  exact ⟨rfl, vl', Q', h.wr hI hW hf, hW⟩
theorem DF.writeNo (h : DF w0 w p vl Q N) (hl : N.length ≤ 100000) (hB : BigT N) (s : List UInt8) (hs : s.length ≤ 100000) {sb : ByteArray} (hsb : sb = bs s) (up ahead : Int) (hok : ¬ WriteOk N up ahead) :
    Calls Try.prog 80 [.pointer (some ⟨p, 0, none⟩), .string sb, .int .i64 up, .int .i64 ahead].toArray w fun e w' => e = .returned (.bool false) ∧ ∃ vl' Q', DF w0 w' p vl' Q' N ∧ WrD w w' p vl Q vl' Q' := by
  subst hsb
  refine (write_calls h.is h.wf hl s hs hB.text up ahead).mono ?_
  rintro e w' ⟨q, vl', Q', N2, rfl, hI, hW, hR⟩
  obtain ⟨rfl, rfl⟩ := hR.2 hok
  exact ⟨rfl, vl', Q', h.wr hI hW h.wf, hW⟩
theorem DF.put (h : DF w0 w p vl Q N) (hl : N.length ≤ 100000) (n up ahead : Int) (N' : List ND) (hok : PutOk N n up ahead) (hN : layN N n.toNat up.toNat ((placeN (ndOf N up).kids ahead).getD 0) = N') :
    Calls Try.prog 55 [.pointer (some ⟨p, 0, none⟩), .int .i64 n, .int .i64 up, .int .i64 ahead].toArray w fun e w' => e = .returned (.bool true) ∧ ∃ vl' Q', DF w0 w' p vl' Q' N' ∧ WrD w w' p vl Q vl' Q' := by
  refine (put_calls h.is h.wf hl n up ahead).mono ?_
  rintro e w' ⟨q, Q', N2, rfl, hI, hW, hR⟩
  obtain ⟨rfl, rfl⟩ := hR.1 hok
  have hf := (hR.wf h.wf).1
  rw [hN] at hI hf
  exact ⟨rfl, vl, Q', h.wr hI hW hf, hW⟩
theorem DF.putNo (h : DF w0 w p vl Q N) (hl : N.length ≤ 100000) (n up ahead : Int) (hok : ¬ PutOk N n up ahead) :
    Calls Try.prog 55 [.pointer (some ⟨p, 0, none⟩), .int .i64 n, .int .i64 up, .int .i64 ahead].toArray w fun e w' => e = .returned (.bool false) ∧ ∃ vl' Q', DF w0 w' p vl' Q' N ∧ WrD w w' p vl Q vl' Q' := by
  refine (put_calls h.is h.wf hl n up ahead).mono ?_
  rintro e w' ⟨q, Q', N2, rfl, hI, hW, hR⟩
  obtain ⟨rfl, rfl⟩ := hR.2 hok
  exact ⟨rfl, vl, Q', h.wr hI hW h.wf, hW⟩
theorem DF.elem (h : DF w0 w p vl Q N) (hl : N.length ≤ 100000) (sp : Int) (nm : ByteArray) {va : Value} {l : List At} (ha : AttrS w va l) (hal : l.length ≤ 100000) :
    Calls Try.prog 11 [.pointer (some ⟨p, 0, none⟩), .int .i64 sp, .string nm, va].toArray w fun e w' => e = .returned (.int .i64 N.length) ∧ ∃ vl' Q', DF w0 w' p vl' Q' (N ++ [⟨1, sp, nm, l, [], -1, []⟩]) ∧ WrD w w' p vl Q vl' Q' := by
  refine (elem'_calls h.is hl sp nm ha hal).mono ?_
  rintro e w' ⟨rfl, vl', Q', hI, hW⟩
  exact ⟨rfl, vl', Q', h.wr hI hW (h.wf.add rfl rfl), hW⟩
theorem DF.note (h : DF w0 w p vl Q N) (hl : N.length ≤ 100000) (s : List UInt8) (hs : s.length ≤ 100000) {sb : ByteArray} (hsb : sb = bs s) :
    Calls Try.prog 12 [.pointer (some ⟨p, 0, none⟩), .string sb].toArray w fun e w' => e = .returned (.int .i64 N.length) ∧ ∃ vl' Q', DF w0 w' p vl' Q' (N ++ [⟨3, 0, ⟨#[]⟩, [], s, -1, []⟩]) ∧ WrD w w' p vl Q vl' Q' := by
  subst hsb
  refine (note_calls h.is hl s hs).mono ?_
  rintro e w' ⟨rfl, vl', Q', hI, hW⟩
  exact ⟨rfl, vl', Q', h.wr hI hW (h.wf.add rfl rfl), hW⟩
theorem DF.new {w0 w : World} (hc : Chg w0 w No) : Calls Try.prog 43 [].toArray w fun e w' => ∃ p vl Q, e = .returned (.pointer (some ⟨p, 0, none⟩)) ∧ DF w0 w' p vl Q rootN := by
  refine new_calls.mono ?_
  rintro e w' ⟨p, vl, Q, rfl, hI, hC, hge⟩
  exact ⟨p, vl, Q, rfl, hI, fun k hk => Nat.le_trans hc.size (hge k hk), hc.no hC, rootN_WF⟩
theorem DF.tree (h : DF w0 w p vl Q N) (hl : N.length ≤ 100000) (hB : BigT N) (n : Nat) (hn : n < N.length) (t : NT) (ht : TF N (N.getD n n0).kids t) {ni : Int} (hni : ni = (n : Int)) :
    Calls Try.prog 39 [.pointer (some ⟨p, 0, none⟩), .int .i64 ni].toArray w fun e w' => ∃ vo, e = .returned vo ∧ TreeOk w' (fun b => w.heap.size ≤ b) (fun b => w.heap.size ≤ b) vo t ∧ DF w0 w' p vl Q N ∧ Chg w w' No := by
  subst hni
  refine (tree_calls h.wf hl hB _ h.is n hn t ht (Nat.le_refl _)).mono ?_
  rintro e w' ⟨vo, rfl, hT, hC⟩
  exact ⟨vo, rfl, hT, h.no hC, hC⟩
end
theorem tmod_emod (a : Int) (n : Nat) (hn : 0 < n) : (0 ≤ a.tmod n ∧ a.tmod n = a % n ∧ a.tmod n < n) ∨ (a.tmod n < 0 ∧ a.tmod n + n = a % n ∧ -(n : Int) < a.tmod n) := by
  have h1 := Int.emod_nonneg a (show (n : Int) ≠ 0 by omega)
  have h2 := Int.emod_lt_of_pos a (show (0 : Int) < n by omega)
  have h3 := Int.tmod_lt_of_pos a (show (0 : Int) < n by omega)
  have h4 : -(n : Int) < a.tmod n := by
    have := Int.tmod_lt_of_pos (-a) (show (0 : Int) < n by omega)
    rw [Int.neg_tmod] at this; omega
  have h5 : ((n : Int)) ∣ (a % n - a.tmod n) := by
    have e1 := Int.emod_add_mul_ediv a n
    have e2 := Int.tmod_add_mul_tdiv a n
    refine ⟨a.tdiv n - a / n, ?_⟩
    rw [Int.mul_sub]; omega
  obtain ⟨q, hq⟩ := h5
  have hq0 : -1 < q := by
    apply Int.lt_of_not_ge; intro hge
    have : (n : Int) * q ≤ (n : Int) * (-1) := Int.mul_le_mul_of_nonneg_left hge (by omega)
    omega
  have hq1 : q < 2 := by
    apply Int.lt_of_not_ge; intro hge
    have : (n : Int) * 2 ≤ (n : Int) * q := Int.mul_le_mul_of_nonneg_left hge (by omega)
    omega
  have : q = 0 ∨ q = 1 := by omega
  rcases this with rfl | rfl
  · left; omega
  · right; omega
theorem within1_calls {w : World} {a : Int} {n : Nat} (hn : 0 < n) (hn2 : n ≤ 1000000000) :
    Calls Try.prog 47 [.int .i64 a, .int .i64 n].toArray w fun e w' => e = .returned (.int .i64 (a % n)) ∧ w' = w := by
  have hm := tmod_emod a n hn
  refine calls_zc (n := 15) (f := 47) (fn := Try.f47) Try.func47 rfl rfl (by simp) ?_
  refine zc_seq ?_
  refine zc_region ?_
  refine zl_pureL rfl ?_
  refine zl_nil ?_
  refine zk_seq ?_
  refine zc_seq ?_
  refine zc_region ?_
  iterate 2 (refine zl_pureL rfl ?_)
  refine z_rem (by first | exact want_none | exact want_L rfl) (by decide) rfl rfl (by omega) ?_
  refine zl_pureL rfl ?_
  refine zl_nil ?_
  refine zk_seq ?_
  iterate 2 (refine zc_seq ?_)
  refine zc_region ?_
  refine zl_pureL rfl ?_
  rcases hm with ⟨h1, h2, h3⟩ | ⟨h1, h2, h3⟩
  · refine z_cmpB (r := false) want_none (by decide) rfl rfl rfl (iff_of_false Bool.false_ne_true (by omega)) ?_
    refine zl_nil ?_
    refine zk_seq ?_
    refine zc_false rfl ?_
    refine zc_skip ?_
    refine zk_seq ?_
    refine zc_seq ?_
    refine zc_region ?_
    iterate 2 (refine zl_pureL rfl ?_)
    refine zl_nil ?_
    refine zk_seq ?_
    refine zc_ret ?_
    exact zk_ret1 (.inr rfl) rfl rfl ⟨by rw [h2], rfl⟩
  · refine z_cmpB (r := true) want_none (by decide) rfl rfl rfl (iff_of_true rfl (by omega)) ?_
    refine zl_nil ?_
    refine zk_seq ?_
    refine zc_true rfl ?_
    refine zc_region ?_
    iterate 2 (refine zl_pureL rfl ?_)
    refine z_add want_none (by decide) rfl rfl (by omega) (by omega) ?_
    refine zl_pureL rfl ?_
    refine zl_nil ?_
    refine zk_seq ?_
    refine zc_seq ?_
    refine zc_region ?_
    iterate 2 (refine zl_pureL rfl ?_)
    refine zl_nil ?_
    refine zk_seq ?_
    refine zc_ret ?_
    exact zk_ret1 (.inr rfl) rfl rfl ⟨by rw [h2], rfl⟩
end Go.Proofs.Yteeibieaapiomaa.D
/- DWords -/
/- The document's words. -/
namespace Go.Proofs.Yteeibieaapiomaa.D
open Go Go.Z Go.Proofs
set_option linter.unusedVariables false
def blankN (c : Nat) : Bool := decide (c = 9 ∨ c = 10 ∨ c = 12 ∨ c = 13 ∨ c = 32)
theorem blankR_calls {w : World} (c : Nat) : Calls Try.prog 92 [.int .u8 c].toArray w fun e w' => e = .returned (.bool (blankN c)) ∧ w' = w := by
  unfold blankN
  refine calls_zc (n := 21) (f := 92) (fn := Try.f92) Try.func92 rfl rfl (by simp) ?_
  refine zc_seq ?_
  refine zc_region ?_
  refine zl_pureL rfl ?_
  refine zl_nil ?_
  refine zk_seq ?_
  refine zc_seq ?_
  refine zc_region ?_
  refine zl_pureL rfl ?_
  by_cases h : c = 9 ∨ c = 10 ∨ c = 12 ∨ c = 13 ∨ c = 32
  · rw [decide_eq_true h]
    rcases h with rfl | rfl | rfl | rfl | rfl
    · refine z_cmpB (r := true) want_none (by decide) rfl rfl rfl (iff_of_true rfl (by omega)) ?_
      iterate 2 (refine zl_pureL rfl ?_)
      refine zl_skip rfl ?_
      iterate 3 (refine zl_pureL rfl ?_)
      refine zl_skip rfl ?_
      iterate 3 (refine zl_pureL rfl ?_)
      refine zl_skip rfl ?_
      iterate 3 (refine zl_pureL rfl ?_)
      refine zl_skip rfl ?_
      iterate 2 (refine zl_pureL rfl ?_)
      refine zl_nil ?_
      refine zk_seq ?_
      refine zc_ret ?_
      exact zk_ret1 (.inr rfl) rfl rfl ⟨rfl, rfl⟩
    · refine z_cmpB (r := false) want_none (by decide) rfl rfl rfl (iff_of_false Bool.false_ne_true (by omega)) ?_
      iterate 2 (refine zl_pureL rfl ?_)
      refine z_cmpB (r := true) (want_L rfl) (by decide) rfl rfl rfl (iff_of_true rfl (by omega)) ?_
      iterate 3 (refine zl_pureL rfl ?_)
      refine zl_skip rfl ?_
      iterate 3 (refine zl_pureL rfl ?_)
      refine zl_skip rfl ?_
      iterate 3 (refine zl_pureL rfl ?_)
      refine zl_skip rfl ?_
      iterate 2 (refine zl_pureL rfl ?_)
      refine zl_nil ?_
      refine zk_seq ?_
      refine zc_ret ?_
      exact zk_ret1 (.inr rfl) rfl rfl ⟨rfl, rfl⟩
    · refine z_cmpB (r := false) want_none (by decide) rfl rfl rfl (iff_of_false Bool.false_ne_true (by omega)) ?_
      iterate 2 (refine zl_pureL rfl ?_)
      refine z_cmpB (r := false) (want_L rfl) (by decide) rfl rfl rfl (iff_of_false Bool.false_ne_true (by omega)) ?_
      iterate 3 (refine zl_pureL rfl ?_)
      refine z_cmpB (r := true) (want_L rfl) (by decide) rfl rfl rfl (iff_of_true rfl (by omega)) ?_
      iterate 3 (refine zl_pureL rfl ?_)
      refine zl_skip rfl ?_
      iterate 3 (refine zl_pureL rfl ?_)
      refine zl_skip rfl ?_
      iterate 2 (refine zl_pureL rfl ?_)
      refine zl_nil ?_
      refine zk_seq ?_
      refine zc_ret ?_
      exact zk_ret1 (.inr rfl) rfl rfl ⟨rfl, rfl⟩
    · refine z_cmpB (r := false) want_none (by decide) rfl rfl rfl (iff_of_false Bool.false_ne_true (by omega)) ?_
      iterate 2 (refine zl_pureL rfl ?_)
      refine z_cmpB (r := false) (want_L rfl) (by decide) rfl rfl rfl (iff_of_false Bool.false_ne_true (by omega)) ?_
      iterate 3 (refine zl_pureL rfl ?_)
      refine z_cmpB (r := false) (want_L rfl) (by decide) rfl rfl rfl (iff_of_false Bool.false_ne_true (by omega)) ?_
      iterate 3 (refine zl_pureL rfl ?_)
      refine z_cmpB (r := true) (want_L rfl) (by decide) rfl rfl rfl (iff_of_true rfl (by omega)) ?_
      iterate 3 (refine zl_pureL rfl ?_)
      refine zl_skip rfl ?_
      iterate 2 (refine zl_pureL rfl ?_)
      refine zl_nil ?_
      refine zk_seq ?_
      refine zc_ret ?_
      exact zk_ret1 (.inr rfl) rfl rfl ⟨rfl, rfl⟩
    · refine z_cmpB (r := false) want_none (by decide) rfl rfl rfl (iff_of_false Bool.false_ne_true (by omega)) ?_
      iterate 2 (refine zl_pureL rfl ?_)
      refine z_cmpB (r := false) (want_L rfl) (by decide) rfl rfl rfl (iff_of_false Bool.false_ne_true (by omega)) ?_
      iterate 3 (refine zl_pureL rfl ?_)
      refine z_cmpB (r := false) (want_L rfl) (by decide) rfl rfl rfl (iff_of_false Bool.false_ne_true (by omega)) ?_
      iterate 3 (refine zl_pureL rfl ?_)
      refine z_cmpB (r := false) (want_L rfl) (by decide) rfl rfl rfl (iff_of_false Bool.false_ne_true (by omega)) ?_
      iterate 3 (refine zl_pureL rfl ?_)
      refine z_cmpB (r := true) (want_L rfl) (by decide) rfl rfl rfl (iff_of_true rfl (by omega)) ?_
      iterate 2 (refine zl_pureL rfl ?_)
      refine zl_nil ?_
      refine zk_seq ?_
      refine zc_ret ?_
      exact zk_ret1 (.inr rfl) rfl rfl ⟨rfl, rfl⟩
  · rw [decide_eq_false h]
    refine z_cmpB (r := false) want_none (by decide) rfl rfl rfl (iff_of_false Bool.false_ne_true (by omega)) ?_
    iterate 2 (refine zl_pureL rfl ?_)
    refine z_cmpB (r := false) (want_L rfl) (by decide) rfl rfl rfl (iff_of_false Bool.false_ne_true (by omega)) ?_
    iterate 3 (refine zl_pureL rfl ?_)
    refine z_cmpB (r := false) (want_L rfl) (by decide) rfl rfl rfl (iff_of_false Bool.false_ne_true (by omega)) ?_
    iterate 3 (refine zl_pureL rfl ?_)
    refine z_cmpB (r := false) (want_L rfl) (by decide) rfl rfl rfl (iff_of_false Bool.false_ne_true (by omega)) ?_
    iterate 3 (refine zl_pureL rfl ?_)
    refine z_cmpB (r := false) (want_L rfl) (by decide) rfl rfl rfl (iff_of_false Bool.false_ne_true (by omega)) ?_
    iterate 2 (refine zl_pureL rfl ?_)
    refine zl_nil ?_
    refine zk_seq ?_
    refine zc_ret ?_
    exact zk_ret1 (.inr rfl) rfl rfl ⟨rfl, rfl⟩
theorem drop_cons0 (l : List UInt8) (i : Nat) (h : i < l.length) : l.drop i = l.getD i 0 :: l.drop (i + 1) := by
  rw [List.drop_eq_getElem_cons h, List.getD_eq_getElem?_getD, List.getElem?_eq_getElem h]; rfl
def wordsN (cur : List UInt8) : List UInt8 → List (List UInt8)
  | [] => if cur = [] then [] else [cur]
  | c :: r => if blankN c.toNat = true then (if cur = [] then wordsN [] r else cur :: wordsN [] r) else wordsN (cur ++ [c]) r
def cellsS (ss : List (List UInt8)) : List Value := ss.map fun l => .string (bs l)
theorem cellsS_len (ss : List (List UInt8)) : (cellsS ss).length = ss.length := by simp [cellsS]
theorem cellsS_app (l r : List (List UInt8)) : cellsS (l ++ r) = cellsS l ++ cellsS r := by simp [cellsS]
theorem cellsS_one (ss : List (List UInt8)) : ∀ u ∈ cellsS ss, u.oneCell' = true := by
  intro u hu
  simp only [cellsS, List.mem_map] at hu
  obtain ⟨b, _, rfl⟩ := hu
  rfl
theorem cellsS_at (ss : List (List UInt8)) (i : Nat) (h : i < ss.length) : (cellsS ss)[i]? = some (.string (bs (ss.getD i []))) := by
  simp [cellsS, List.getD_eq_getElem?_getD, List.getElem?_eq_getElem h]
theorem rowge {v v' : Value} {B n : Nat} (hv : ∀ k, v.ownBlock = some k → B ≤ k) (hr : v'.ownBlock = v.ownBlock ∨ ∃ k, v'.ownBlock = some k ∧ n ≤ k) (hn : B ≤ n) : ∀ k, v'.ownBlock = some k → B ≤ k := fun k hk => by
  rcases hr with h1 | ⟨q, h1, h2⟩
  · exact hv k (h1 ▸ hk)
  · rw [hk] at h1; cases h1; omega
set_option maxHeartbeats 4000000 in
theorem wordsR_calls {w : World} {l : List UInt8} (hl : l.length ≤ 100000) : Calls Try.prog 69 [.string (bs l)].toArray w fun e w' => ∃ v, e = .returned v ∧ Own w' 9 1 v (wordsN [] l).length (cellsS (wordsN [] l)) ∧ Chg w w' No := by
  refine calls_zc (n := 36) (f := 69) (fn := Try.f69) Try.func69 rfl rfl (by simp) ?_
  refine zc_seq ?_
  refine zc_region ?_
  refine zl_pureL rfl ?_
  refine zl_nil ?_
  refine zk_seq ?_
  refine zc_seq ?_
  refine zc_region ?_
  refine zl_pureL rfl ?_
  refine zl_nil ?_
  refine zk_seq ?_
  refine zc_seq ?_
  refine zc_region ?_
  refine zl_pureL rfl ?_
  refine zl_nil ?_
  refine zk_seq ?_
  iterate 2 (refine zc_seq ?_)
  refine zc_region ?_
  refine zl_pureL rfl ?_
  refine zl_nil ?_
  refine zk_seq ?_
  refine zc_block ?_
  refine zc_loopW (ι := Nat × Nat × Value × List (List UInt8)) (fun q u => [(0, .string (bs l)), (3, q.2.2.1), (4, .int .i64 q.2.1), (5, .int .i64 q.1)])
    (fun q u => q.1 ≤ l.length + 1 ∧ q.2.1 ≤ q.1 ∧ Chg w u No ∧ Own u 9 1 q.2.2.1 q.2.2.2.length (cellsS q.2.2.2) ∧ (∀ k, q.2.2.1.ownBlock = some k → w.heap.size ≤ k) ∧ q.2.2.2.length ≤ q.2.1 ∧
      (q.1 ≤ l.length → q.2.2.2 ++ wordsN ((l.drop q.2.1).take (q.1 - q.2.1)) (l.drop q.1) = wordsN [] l) ∧ (q.1 = l.length + 1 → q.2.2.2 = wordsN [] l)) (fun q u => l.length + 1 - q.1) (0, 0, .slice none 0 0, [])
    ⟨Nat.zero_le _, Nat.le_refl _, Chg.refl _ _, Own.nil, (fun k hk => by cases hk), Nat.le_refl _, fun _ => rfl, fun h => by simp at h⟩ ?_ ?_
  · exact ⟨rfl, rfl, rfl, rfl, trivial⟩
  rintro ⟨i, from', v, out⟩ u ⟨hi, hf, hC, hO, hv, hol, hd, he⟩
  dsimp only at hi hf hC hO hv hol hd he ⊢
  by_cases hend : i = l.length + 1
  · have he := he hend
    subst he
    iterate 2 (refine zc_seq ?_)
    refine zc_region ?_
    iterate 2 (refine zl_pureL rfl ?_)
    refine z_lenL want_none (by decide) rfl ?_
    refine z_cmpB (r := false) want_none (by decide) rfl rfl rfl (iff_of_false Bool.false_ne_true (by omega)) ?_
    refine zl_nil ?_
    refine zk_seq ?_
    refine zc_false rfl ?_
    refine zc_exit ?_
    iterate 2 (refine zk_exit_then ?_)
    refine zk_exit_block ?_
    refine zk_seq ?_
    refine zc_seq ?_
    refine zc_region ?_
    iterate 2 (refine zl_pureL rfl ?_)
    refine zl_nil ?_
    refine zk_seq ?_
    refine zc_ret ?_
    exact zk_ret1 (.inr rfl) rfl rfl ⟨_, rfl, hO, hC⟩
  have hil : i ≤ l.length := by omega
  have hd := hd hil
  -- the word that ends here
  have hcut : ∀ rest : List UInt8, (i < l.length ∧ blankN (byteL l i) = true ∧ rest = l.drop (i + 1)) ∨ (i = l.length ∧ rest = []) → wordsN ((l.drop from').take (i - from')) (l.drop i) = (if i > from' then [(l.drop from').take (i - from')] else []) ++ wordsN [] rest := by
    intro rest hr
    have hlen : ((l.drop from').take (i - from')).length = i - from' := by rw [List.length_take, List.length_drop]; omega
    have hnil : (l.drop from').take (i - from') = [] ↔ ¬ i > from' := by
      constructor
      · intro h; rw [h] at hlen; simp at hlen; omega
      · intro h; rw [show i - from' = 0 by omega]; rfl
    rcases hr with ⟨h1, h2, rfl⟩ | ⟨h1, rfl⟩
    · rw [drop_cons0 l i h1]
      show (if blankN (l.getD i 0).toNat = true then (if _ = [] then _ else _) else _) = _
      rw [if_pos (show blankN (l.getD i 0).toNat = true from h2)]
      by_cases hq : i > from'
      · rw [if_pos hq, if_neg (fun h => (hnil.1 h) hq)]; rfl
      · rw [if_neg hq, if_pos (hnil.2 hq)]; rfl
    · rw [h1, List.drop_length, ← h1]
      show (if _ = [] then _ else _) = _
      by_cases hq : i > from'
      · rw [if_pos hq, if_neg (fun h => (hnil.1 h) hq)]; rfl
      · rw [if_neg hq, if_pos (hnil.2 hq)]; rfl
  have hmid : i = l.length ∨ (i < l.length ∧ blankN (byteL l i) = true) ∨ (i < l.length ∧ blankN (byteL l i) = false) := by
    by_cases h1 : i = l.length
    · exact .inl h1
    · cases hb : blankN (byteL l i)
      · exact .inr (.inr ⟨by omega, rfl⟩)
      · exact .inr (.inl ⟨by omega, rfl⟩)
  have hstop : ∀ u2, Chg u u2 No → (i = l.length ∨ (i < l.length ∧ blankN (byteL l i) = true)) → out ++ ((if i > from' then [(l.drop from').take (i - from')] else []) ++ (if i < l.length then wordsN [] (l.drop (i + 1)) else [])) = wordsN [] l := fun u2 _ hs => by
    rw [← hd]
    rcases hs with h1 | ⟨h1, h2⟩
    · rw [hcut [] (.inr ⟨h1, rfl⟩), if_neg (show ¬ i < l.length by omega)]; rfl
    · rw [hcut _ (.inl ⟨h1, h2, rfl⟩), if_pos (show i < l.length from h1)]
  have hfin : ∀ (v' : Value) (out' : List (List UInt8)), out' = out ++ (if i > from' then [(l.drop from').take (i - from')] else []) → (i = l.length ∨ (i < l.length ∧ blankN (byteL l i) = true)) →
      (i + 1 ≤ l.length → out' ++ wordsN ((l.drop (i + 1)).take (i + 1 - (i + 1))) (l.drop (i + 1)) = wordsN [] l) ∧ (i + 1 = l.length + 1 → out' = wordsN [] l) := by
    intro v' out' ho hs
    have h := hstop u (Chg.refl _ _) hs
    refine ⟨fun h1 => ?_, fun h1 => ?_⟩
    · rw [Nat.sub_self, List.take_zero, ho, ← h, if_pos (show i < l.length by omega), List.append_assoc]
    · rw [ho, ← h, if_neg (show ¬ i < l.length by omega), List.append_nil]
  rcases hmid with h1 | ⟨h1, h2⟩ | ⟨h1, h2⟩
  · by_cases hq : i > from'
    · iterate 2 (refine zc_seq ?_)
      refine zc_region ?_
      iterate 2 (refine zl_pureL rfl ?_)
      refine z_lenL want_none (by decide) rfl ?_
      refine z_cmpB (r := true) want_none (by decide) rfl rfl rfl (iff_of_true rfl (by omega)) ?_
      refine zl_nil ?_
      refine zk_seq ?_
      refine zc_true rfl ?_
      refine zc_skip ?_
      refine zk_seq ?_
      refine zc_seq ?_
      refine zc_block ?_
      iterate 2 (refine zc_seq ?_)
      refine zc_region ?_
      iterate 2 (refine zl_pureL rfl ?_)
      refine z_lenL want_none (by decide) rfl ?_
      refine z_cmpB (r := false) want_none (by decide) rfl rfl rfl (iff_of_false Bool.false_ne_true (by omega)) ?_
      iterate 3 (refine zl_pureL rfl ?_)
      iterate 2 (refine zl_skip rfl ?_)
      iterate 2 (refine zl_pureL rfl ?_)
      refine zl_nil ?_
      refine zk_seq ?_
      refine zc_false rfl ?_
      refine zc_skip ?_
      refine zk_seq ?_
      iterate 2 (refine zc_seq ?_)
      refine zc_region ?_
      iterate 2 (refine zl_pureL rfl ?_)
      refine z_cmpB (r := true) want_none (by decide) rfl rfl rfl (iff_of_true rfl (by omega)) ?_
      refine zl_nil ?_
      refine zk_seq ?_
      refine zc_true rfl ?_
      refine zc_region ?_
      iterate 4 (refine zl_pureL rfl ?_)
      refine z_cutN from' i (by first | exact want_none | exact want_L rfl) (by decide) rfl rfl rfl rfl rfl (by omega) (by omega) ?_
      refine z_bs1 (by first | exact want_none | exact want_L rfl) (by decide) rfl (by rfl) (by rfl) (by decide) (by decide) (fun w1 b1 hN1 => ?_)
      have hr : RdS w1 9 1 (.slice (some ⟨b1, 0, none⟩) 1 1) 1 (cellsS [(l.drop from').take (i - from')]) := RdS.new hN1 rfl (cellsS_one _)
      refine z_appendO (by rfl) (by decide) (by first | exact want_none | exact want_L rfl) (by decide) rfl rfl (hO.no hN1.chg) hr (by omega) (by omega) (fun v2 w2 hO2 hC2 hr2 => ?_)
      rw [← cellsS_app, show out.length + 1 = (out ++ [(l.drop from').take (i - from')]).length by simp] at hO2
      have hv2 := rowge hv hr2 (by have := hC.size; have := hN1.size; omega)
      have hC3 := (hC.no hN1.chg).trans hC2 (fun j hj hs => by have := hv j hs; omega)
      obtain ⟨g1, g2⟩ := hfin v2 _ (by rw [if_pos hq]) (.inl h1)
      refine zl_pureL rfl ?_
      refine zl_nil ?_
      refine zk_seq ?_
      refine zc_region ?_
      refine zl_pureL rfl ?_
      refine z_add want_none (by decide) rfl rfl (by omega) (by omega) ?_
      refine zl_pureL rfl ?_
      refine zl_nil ?_
      refine zk_norm_block ?_
      refine zk_seq ?_
      refine zc_region ?_
      refine zl_pureL rfl ?_
      refine z_add want_none (by decide) rfl rfl (by omega) (by omega) ?_
      refine zl_pureL rfl ?_
      refine zl_nil ?_
      exact zk_loopW (i + 1, i + 1, v2, out ++ [(l.drop from').take (i - from')]) ⟨by dsimp only; omega, Nat.le_refl _, hC3, hO2, hv2, by simp; omega, g1, g2⟩ (by simp; omega) ⟨rfl, rfl, get_int rfl (by simp), get_int rfl (by simp), trivial⟩
    · obtain ⟨g1, g2⟩ := hfin v out (by rw [if_neg hq, List.append_nil]) (.inl h1)
      iterate 2 (refine zc_seq ?_)
      refine zc_region ?_
      iterate 2 (refine zl_pureL rfl ?_)
      refine z_lenL want_none (by decide) rfl ?_
      refine z_cmpB (r := true) want_none (by decide) rfl rfl rfl (iff_of_true rfl (by omega)) ?_
      refine zl_nil ?_
      refine zk_seq ?_
      refine zc_true rfl ?_
      refine zc_skip ?_
      refine zk_seq ?_
      refine zc_seq ?_
      refine zc_block ?_
      iterate 2 (refine zc_seq ?_)
      refine zc_region ?_
      iterate 2 (refine zl_pureL rfl ?_)
      refine z_lenL want_none (by decide) rfl ?_
      refine z_cmpB (r := false) want_none (by decide) rfl rfl rfl (iff_of_false Bool.false_ne_true (by omega)) ?_
      iterate 3 (refine zl_pureL rfl ?_)
      iterate 2 (refine zl_skip rfl ?_)
      iterate 2 (refine zl_pureL rfl ?_)
      refine zl_nil ?_
      refine zk_seq ?_
      refine zc_false rfl ?_
      refine zc_skip ?_
      refine zk_seq ?_
      iterate 2 (refine zc_seq ?_)
      refine zc_region ?_
      iterate 2 (refine zl_pureL rfl ?_)
      refine z_cmpB (r := false) want_none (by decide) rfl rfl rfl (iff_of_false Bool.false_ne_true (by omega)) ?_
      refine zl_nil ?_
      refine zk_seq ?_
      refine zc_false rfl ?_
      refine zc_skip ?_
      refine zk_seq ?_
      refine zc_region ?_
      refine zl_pureL rfl ?_
      refine z_add want_none (by decide) rfl rfl (by omega) (by omega) ?_
      refine zl_pureL rfl ?_
      refine zl_nil ?_
      refine zk_norm_block ?_
      refine zk_seq ?_
      refine zc_region ?_
      refine zl_pureL rfl ?_
      refine z_add want_none (by decide) rfl rfl (by omega) (by omega) ?_
      refine zl_pureL rfl ?_
      refine zl_nil ?_
      exact zk_loopW (i + 1, i + 1, v, out) ⟨by dsimp only; omega, Nat.le_refl _, hC, hO, hv, by dsimp only; omega, g1, g2⟩ (by simp; omega) ⟨rfl, rfl, get_int rfl (by simp), get_int rfl (by simp), trivial⟩
  · by_cases hq : i > from'
    · iterate 2 (refine zc_seq ?_)
      refine zc_region ?_
      iterate 2 (refine zl_pureL rfl ?_)
      refine z_lenL want_none (by decide) rfl ?_
      refine z_cmpB (r := true) want_none (by decide) rfl rfl rfl (iff_of_true rfl (by omega)) ?_
      refine zl_nil ?_
      refine zk_seq ?_
      refine zc_true rfl ?_
      refine zc_skip ?_
      refine zk_seq ?_
      refine zc_seq ?_
      refine zc_block ?_
      iterate 2 (refine zc_seq ?_)
      refine zc_region ?_
      iterate 2 (refine zl_pureL rfl ?_)
      refine z_lenL want_none (by decide) rfl ?_
      refine z_cmpB (r := true) want_none (by decide) rfl rfl rfl (iff_of_true rfl (by omega)) ?_
      iterate 3 (refine zl_pureL rfl ?_)
      refine z_idxN (want_L rfl) (by decide) rfl rfl (by omega) ?_
      refine zl_call (by first | exact want_none | exact want_L rfl) rfl (by decide) rfl (blankR_calls (byteL l i)) ?_
      rintro _ w1' ⟨rfl, rfl⟩
      refine ⟨_, rfl, ?_⟩
      rw [h2]
      iterate 2 (refine zl_pureL rfl ?_)
      refine zl_nil ?_
      refine zk_seq ?_
      refine zc_false rfl ?_
      refine zc_skip ?_
      refine zk_seq ?_
      iterate 2 (refine zc_seq ?_)
      refine zc_region ?_
      iterate 2 (refine zl_pureL rfl ?_)
      refine z_cmpB (r := true) want_none (by decide) rfl rfl rfl (iff_of_true rfl (by omega)) ?_
      refine zl_nil ?_
      refine zk_seq ?_
      refine zc_true rfl ?_
      refine zc_region ?_
      iterate 4 (refine zl_pureL rfl ?_)
      refine z_cutN from' i (by first | exact want_none | exact want_L rfl) (by decide) rfl rfl rfl rfl rfl (by omega) (by omega) ?_
      refine z_bs1 (by first | exact want_none | exact want_L rfl) (by decide) rfl (by rfl) (by rfl) (by decide) (by decide) (fun w1 b1 hN1 => ?_)
      have hr : RdS w1 9 1 (.slice (some ⟨b1, 0, none⟩) 1 1) 1 (cellsS [(l.drop from').take (i - from')]) := RdS.new hN1 rfl (cellsS_one _)
      refine z_appendO (by rfl) (by decide) (by first | exact want_none | exact want_L rfl) (by decide) rfl rfl (hO.no hN1.chg) hr (by omega) (by omega) (fun v2 w2 hO2 hC2 hr2 => ?_)
      rw [← cellsS_app, show out.length + 1 = (out ++ [(l.drop from').take (i - from')]).length by simp] at hO2
      have hv2 := rowge hv hr2 (by have := hC.size; have := hN1.size; omega)
      have hC3 := (hC.no hN1.chg).trans hC2 (fun j hj hs => by have := hv j hs; omega)
      obtain ⟨g1, g2⟩ := hfin v2 _ (by rw [if_pos hq]) (.inr ⟨h1, h2⟩)
      refine zl_pureL rfl ?_
      refine zl_nil ?_
      refine zk_seq ?_
      refine zc_region ?_
      refine zl_pureL rfl ?_
      refine z_add want_none (by decide) rfl rfl (by omega) (by omega) ?_
      refine zl_pureL rfl ?_
      refine zl_nil ?_
      refine zk_norm_block ?_
      refine zk_seq ?_
      refine zc_region ?_
      refine zl_pureL rfl ?_
      refine z_add want_none (by decide) rfl rfl (by omega) (by omega) ?_
      refine zl_pureL rfl ?_
      refine zl_nil ?_
      exact zk_loopW (i + 1, i + 1, v2, out ++ [(l.drop from').take (i - from')]) ⟨by dsimp only; omega, Nat.le_refl _, hC3, hO2, hv2, by simp; omega, g1, g2⟩ (by simp; omega) ⟨rfl, rfl, get_int rfl (by simp), get_int rfl (by simp), trivial⟩
    · obtain ⟨g1, g2⟩ := hfin v out (by rw [if_neg hq, List.append_nil]) (.inr ⟨h1, h2⟩)
      iterate 2 (refine zc_seq ?_)
      refine zc_region ?_
      iterate 2 (refine zl_pureL rfl ?_)
      refine z_lenL want_none (by decide) rfl ?_
      refine z_cmpB (r := true) want_none (by decide) rfl rfl rfl (iff_of_true rfl (by omega)) ?_
      refine zl_nil ?_
      refine zk_seq ?_
      refine zc_true rfl ?_
      refine zc_skip ?_
      refine zk_seq ?_
      refine zc_seq ?_
      refine zc_block ?_
      iterate 2 (refine zc_seq ?_)
      refine zc_region ?_
      iterate 2 (refine zl_pureL rfl ?_)
      refine z_lenL want_none (by decide) rfl ?_
      refine z_cmpB (r := true) want_none (by decide) rfl rfl rfl (iff_of_true rfl (by omega)) ?_
      iterate 3 (refine zl_pureL rfl ?_)
      refine z_idxN (want_L rfl) (by decide) rfl rfl (by omega) ?_
      refine zl_call (by first | exact want_none | exact want_L rfl) rfl (by decide) rfl (blankR_calls (byteL l i)) ?_
      rintro _ w1' ⟨rfl, rfl⟩
      refine ⟨_, rfl, ?_⟩
      rw [h2]
      iterate 2 (refine zl_pureL rfl ?_)
      refine zl_nil ?_
      refine zk_seq ?_
      refine zc_false rfl ?_
      refine zc_skip ?_
      refine zk_seq ?_
      iterate 2 (refine zc_seq ?_)
      refine zc_region ?_
      iterate 2 (refine zl_pureL rfl ?_)
      refine z_cmpB (r := false) want_none (by decide) rfl rfl rfl (iff_of_false Bool.false_ne_true (by omega)) ?_
      refine zl_nil ?_
      refine zk_seq ?_
      refine zc_false rfl ?_
      refine zc_skip ?_
      refine zk_seq ?_
      refine zc_region ?_
      refine zl_pureL rfl ?_
      refine z_add want_none (by decide) rfl rfl (by omega) (by omega) ?_
      refine zl_pureL rfl ?_
      refine zl_nil ?_
      refine zk_norm_block ?_
      refine zk_seq ?_
      refine zc_region ?_
      refine zl_pureL rfl ?_
      refine z_add want_none (by decide) rfl rfl (by omega) (by omega) ?_
      refine zl_pureL rfl ?_
      refine zl_nil ?_
      exact zk_loopW (i + 1, i + 1, v, out) ⟨by dsimp only; omega, Nat.le_refl _, hC, hO, hv, by dsimp only; omega, g1, g2⟩ (by simp; omega) ⟨rfl, rfl, get_int rfl (by simp), get_int rfl (by simp), trivial⟩
  · iterate 2 (refine zc_seq ?_)
    refine zc_region ?_
    iterate 2 (refine zl_pureL rfl ?_)
    refine z_lenL want_none (by decide) rfl ?_
    refine z_cmpB (r := true) want_none (by decide) rfl rfl rfl (iff_of_true rfl (by omega)) ?_
    refine zl_nil ?_
    refine zk_seq ?_
    refine zc_true rfl ?_
    refine zc_skip ?_
    refine zk_seq ?_
    refine zc_seq ?_
    refine zc_block ?_
    iterate 2 (refine zc_seq ?_)
    refine zc_region ?_
    iterate 2 (refine zl_pureL rfl ?_)
    refine z_lenL want_none (by decide) rfl ?_
    refine z_cmpB (r := true) want_none (by decide) rfl rfl rfl (iff_of_true rfl (by omega)) ?_
    iterate 3 (refine zl_pureL rfl ?_)
    refine z_idxN (want_L rfl) (by decide) rfl rfl (by omega) ?_
    refine zl_call (by first | exact want_none | exact want_L rfl) rfl (by decide) rfl (blankR_calls (byteL l i)) ?_
    rintro _ w1' ⟨rfl, rfl⟩
    refine ⟨_, rfl, ?_⟩
    rw [h2]
    iterate 2 (refine zl_pureL rfl ?_)
    refine zl_nil ?_
    refine zk_seq ?_
    refine zc_true rfl ?_
    refine zc_exit ?_
    refine zk_exit_then ?_
    refine zk_exit_block ?_
    refine zk_seq ?_
    refine zc_region ?_
    refine zl_pureL rfl ?_
    refine z_add want_none (by decide) rfl rfl (by omega) (by omega) ?_
    refine zl_pureL rfl ?_
    refine zl_nil ?_
    refine zk_loopW (i + 1, from', v, out) ⟨by dsimp only; omega, by dsimp only; omega, hC, hO, hv, hol, fun _ => ?_, fun h => by dsimp only at h; omega⟩ (by simp; omega) ⟨rfl, rfl, rfl, get_int rfl (by simp), trivial⟩
    dsimp only
    rw [← hd, drop_cons0 l i h1]
    show _ = out ++ (if blankN (l.getD i 0).toNat = true then _ else wordsN ((l.drop from').take (i - from') ++ [l.getD i 0]) (l.drop (i + 1)))
    rw [if_neg (by show ¬ blankN (byteL l i) = true; rw [h2]; exact Bool.false_ne_true)]
    congr 2
    rw [show i + 1 - from' = (i - from') + 1 by omega, List.take_succ_eq_append_getElem (by rw [List.length_drop]; omega)]
    congr 2
    rw [List.getElem_drop, List.getD_eq_getElem?_getD, List.getElem?_eq_getElem h1]
    simp [show from' + (i - from') = i by omega]
end Go.Proofs.Yteeibieaapiomaa.D
/- DTape -/
/- Nodes made of a tape of numbers: plain lists; the tape. -/
namespace Go.Proofs.Yteeibieaapiomaa.D
open Go Go.Z Go.Proofs
set_option linter.unusedVariables false
/-- a row of numbers that is handed in -/
def IsRow (k : IntKind) (w : World) (a : Option Addr) (len cap : Nat) (zs : List Int) : Prop :=
  (a = none ∧ len = 0 ∧ cap = 0 ∧ zs = []) ∨
  ∃ x, a = some x ∧ len ≤ cap ∧ cap ≤ maxLen ∧ zs.length = cap ∧ (∀ i, i < zs.length → w.cell? (x.add i) = some (.int k (zs.getD i 0))) ∧ ∀ n ∈ zs, (Lit.int k n).wf = true
theorem IsRow.le {k : IntKind} {w : World} {a : Option Addr} {len cap : Nat} {zs : List Int} (h : IsRow k w a len cap zs) : len ≤ cap ∧ cap ≤ 9223372036854775807 ∧ zs.length = cap := by
  rcases h with ⟨rfl, rfl, rfl, rfl⟩ | ⟨x, rfl, h1, h2, h3, _⟩
  · exact ⟨Nat.le_refl _, by decide, rfl⟩
  · exact ⟨h1, by simpa [maxLen] using h2, h3⟩
theorem IsRow.at_ {k : IntKind} {w : World} {a : Option Addr} {len cap : Nat} {zs : List Int} (h : IsRow k w a len cap zs) (i : Nat) (hi : i < len) : ∃ b o, a = some ⟨b, o, none⟩ ∧ w.cell? ⟨b, o + i, none⟩ = some (.int k (zs.getD i 0)) := by
  rcases h with ⟨rfl, rfl, rfl, rfl⟩ | ⟨x, rfl, h1, h2, h3, h4, h5⟩
  · omega
  · have h0 := h4 0 (by omega)
    have hx : x.add 0 = x := by unfold Addr.add; rw [if_pos rfl]
    rw [hx] at h0
    obtain ⟨b, o, s⟩ := x
    have hs : s = none := by
      unfold World.cell? at h0
      split at h0
      · split at h0
        · cases h0
        · rename_i hn; simpa using hn
      · cases h0
    subst hs
    refine ⟨b, o, rfl, ?_⟩
    have := h4 i (by omega)
    rwa [addr_add] at this
/-- the next number, from 0 to n - 1 -/
def nx (zs : List Int) (len at_ n : Nat) : Nat × Nat := if at_ < len then ((zs.getD at_ 0 % (n : Int)).toNat, at_ + 1) else (0, at_)
theorem nx_lt (zs : List Int) (len at_ n : Nat) (hn : 0 < n) : (nx zs len at_ n).1 < n := by
  unfold nx
  split
  · have h0 := Int.emod_nonneg (zs.getD at_ 0) (show (n : Int) ≠ 0 by omega)
    have h1 := Int.emod_lt_of_pos (zs.getD at_ 0) (show (0 : Int) < n by omega)
    show (zs.getD at_ 0 % (n : Int)).toNat < n
    omega
  · exact hn
/-- a tape that was made since w0 -/
structure Tp (w0 w : World) (bt : Nat) (a : Option Addr) (len cap : Nat) (zs : List Int) (at_ : Nat) : Prop where
  blk : Blk w bt 30 [.slice a len cap, .int .i64 at_]
  row : IsRow .i64 w0 a len cap zs
  chg : Chg w0 w No
  ge : w0.heap.size ≤ bt
  le : at_ ≤ len
theorem Tp.no {w0 w w' : World} {bt : Nat} {a : Option Addr} {len cap : Nat} {zs : List Int} {at_ : Nat} (h : Tp w0 w bt a len cap zs at_) (hc : Chg w w' No) : Tp w0 w' bt a len cap zs at_ := ⟨h.blk.no hc, h.row, h.chg.no hc, h.ge, h.le⟩
theorem Tp.oth {w0 w w' : World} {bt : Nat} {a : Option Addr} {len cap : Nat} {zs : List Int} {at_ : Nat} {S : Nat → Prop} (h : Tp w0 w bt a len cap zs at_) (hc : Chg w w' S) (h1 : ¬ S bt) (h2 : ∀ k, S k → w0.heap.size ≤ k) : Tp w0 w' bt a len cap zs at_ :=
  ⟨h.blk.chg hc h1, h.row, h.chg.trans hc (fun i hi hs => by have := h2 i hs; omega), h.ge, h.le⟩
theorem more_calls {w0 w : World} {bt : Nat} {a : Option Addr} {len cap : Nat} {zs : List Int} {at_ : Nat} (h : Tp w0 w bt a len cap zs at_) :
    Calls Try.prog 13 [.pointer (some ⟨bt, 0, none⟩)].toArray w fun e w' => e = .returned (.bool (decide (at_ < len))) ∧ Chg w w' No := by
  refine calls_zc (n := 13) (f := 13) (fn := Try.f13) Try.func13 rfl rfl (by simp) ?_
  refine zc_seq ?_
  refine zc_region ?_
  refine zl_pureL rfl ?_
  refine zl_nil ?_
  refine zk_seq ?_
  refine zc_seq ?_
  refine zc_draw [] (fun w' => Blk w' bt 30 [.slice a len cap, .int .i64 at_]) (.take 0 (.take 1 (.take 2 (.take 3 (.take 4 (.take 5 (.take 6 (.take 7 (.take 8 (.take 9 (.take 10 (.fin)))))))))))) (by rfl) (by kernel_rfl) (by kernel_rfl) (fun w1 hC1 hH1 => ⟨?_, ?_⟩)
  · exact h.blk.no hC1
  iterate 2 (refine zs_take rfl (zt_pure rfl ?_))
  refine zs_rdL rfl want_none rfl (by decide) (fun _ hS => r_fa rfl) ?_
  refine zs_rdL rfl want_none rfl (by decide) (fun _ hS => r_loadB rfl hS (by rfl)) ?_
  iterate 2 (refine zs_take rfl (zt_pure rfl ?_))
  refine zs_rdL rfl want_none rfl (by decide) (fun _ hS => r_fa rfl) ?_
  refine zs_rdL rfl want_none rfl (by decide) (fun _ hS => r_loadB rfl hS (by rfl)) ?_
  refine zs_rdL rfl want_none rfl (by decide) (fun _ hS => r_len rfl) ?_
  refine zs_rdL rfl (by first | exact want_none | exact want_L rfl) rfl (by decide) (fun _ hS => r_cmpB (r := decide (at_ < len)) rfl rfl rfl (by simp)) ?_
  refine zs_take rfl (zt_pure rfl ?_)
  refine zs_fin ?_
  refine zk_seq ?_
  refine zc_ret ?_
  exact zk_ret1 (.inr rfl) rfl rfl ⟨rfl, hC1⟩
theorem next'_calls {w0 w : World} {bt : Nat} {a : Option Addr} {len cap : Nat} {zs : List Int} {at_ : Nat} (h : Tp w0 w bt a len cap zs at_) (n : Nat) (hn : 0 < n) (hn2 : n ≤ 1000000000) {ni : Int} (hni : ni = (n : Int)) :
    Calls Try.prog 14 [.pointer (some ⟨bt, 0, none⟩), .int .i64 ni].toArray w fun e w' => e = .returned (.int .i64 ((nx zs len at_ n).1 : Nat)) ∧ Tp w0 w' bt a len cap zs (nx zs len at_ n).2 ∧ Chg w w' (· = bt) := by
  subst hni
  obtain ⟨hlc, hcm, _⟩ := h.row.le
  have hat := h.le
  refine calls_zc (n := 35) (f := 14) (fn := Try.f14) Try.func14 rfl rfl (by simp) ?_
  refine zc_seq ?_
  refine zc_region ?_
  refine zl_pureL rfl ?_
  refine zl_nil ?_
  refine zk_seq ?_
  iterate 2 (refine zc_seq ?_)
  refine zc_draw [] (fun w' => Blk w' bt 30 [.slice a len cap, .int .i64 at_]) (.take 0 (.take 1 (.take 2 (.take 3 (.take 4 (.take 5 (.take 6 (.take 7 (.take 8 (.take 9 (.fin))))))))))) (by rfl) (by kernel_rfl) (by kernel_rfl) (fun w1 hC1 hH1 => ⟨?_, ?_⟩)
  · exact h.blk.no hC1
  have h1 := h.no hC1
  have h1b := h1.blk
  have hCa : Chg w w1 No := hC1
  iterate 2 (refine zs_take rfl (zt_pure rfl ?_))
  refine zs_rdL rfl want_none rfl (by decide) (fun _ hS => r_fa rfl) ?_
  refine zs_rdL rfl want_none rfl (by decide) (fun _ hS => r_loadB rfl hS (by rfl)) ?_
  iterate 2 (refine zs_take rfl (zt_pure rfl ?_))
  refine zs_rdL rfl want_none rfl (by decide) (fun _ hS => r_fa rfl) ?_
  refine zs_rdL rfl want_none rfl (by decide) (fun _ hS => r_loadB rfl hS (by rfl)) ?_
  refine zs_rdL rfl want_none rfl (by decide) (fun _ hS => r_len rfl) ?_
  by_cases hlt : at_ < len
  · refine zs_rdL rfl want_none rfl (by decide) (fun _ hS => r_cmpB (r := false) rfl rfl rfl (iff_of_false Bool.false_ne_true (by omega))) ?_
    refine zs_fin ?_
    refine zk_seq ?_
    refine zc_false rfl ?_
    refine zc_skip ?_
    refine zk_seq ?_
    refine zc_seq ?_
    refine zc_region ?_
    iterate 2 (refine zl_pureL rfl ?_)
    refine z_fa want_none (by decide) rfl ?_
    refine z_loadB want_none (by decide) rfl (by assumption) (by rfl) ?_
    refine z_add want_none (by decide) rfl rfl (by omega) (by omega) ?_
    refine zl_pureL rfl ?_
    refine z_fa want_none (by decide) rfl ?_
    refine z_store (by first | exact want_none | exact want_L rfl) rfl rfl rfl (by assumption) (by first | exact Nat.le_refl _ | simp [Value.cells]) (by simp [Value.cells, Value.oneCell']) (fun w2 hU2 => ?_)
    have h2 : Blk w2 bt 30 [.slice a len cap, .int .i64 (at_ + 1)] := hU2.blk
    obtain ⟨b, o, ha, hc⟩ := h.row.at_ at_ hlt
    have hrow := h.row
    subst ha
    have hC2 : Chg w0 w2 No := h1.chg.upd hU2 h.ge
    have hc2 := cell_no hC2 hc
    refine zl_nil ?_
    refine zk_seq ?_
    refine zc_seq ?_
    refine zc_draw [] (fun w' => Chg w2 w' No ∧ Blk w' bt 30 [.slice (some ⟨b, o, none⟩) len cap, .int .i64 (at_ + 1)]) (.take 0 (.take 1 (.take 2 (.take 3 (.take 4 (.take 5 (.take 6 (.take 7 (.take 8 (.take 9 (.take 10 (.take 11 (.all1 12 (.take 13 (.fin))))))))))))))) (by rfl) (by kernel_rfl) (by kernel_rfl) (fun w3 hC3 _ => ⟨?_, ?_⟩)
    · exact ⟨hC3, h2.no hC3⟩
    iterate 2 (refine zs_take rfl (zt_pure rfl ?_))
    refine zs_rdL rfl want_none rfl (by decide) (fun _ hS => r_fa rfl) ?_
    refine zs_rdL rfl want_none rfl (by decide) (fun _ hS => r_loadB rfl hS.2 (by rfl)) ?_
    iterate 2 (refine zs_take rfl (zt_pure rfl ?_))
    refine zs_rdL rfl want_none rfl (by decide) (fun _ hS => r_fa rfl) ?_
    refine zs_rdL rfl want_none rfl (by decide) (fun _ hS => r_loadB rfl hS.2 (by rfl)) ?_
    refine zs_rdL rfl want_none rfl (by decide) (fun _ hS => r_sub rfl rfl (by omega) (by omega)) ?_
    refine zs_rdL rfl want_none rfl (by decide) (fun _ hS => r_ia rfl rfl (by omega) (by omega)) ?_
    refine zs_rdL rfl (by first | exact want_none | exact want_L rfl) rfl (by decide) (fun _ hS => r_load1 rfl (cell_at (cell_no hS.1 hc2) (by omega))) ?_
    refine zs_take rfl (zt_pure rfl ?_)
    refine zs_call rfl (by first | exact want_none | exact want_L rfl) rfl (by decide) rfl (within1_calls (n := n) hn hn2) ?_
    rintro _ w4 ⟨rfl, hw4⟩
    obtain rfl := hw4.symm
    refine ⟨_, rfl, ⟨hC3, h2.no hC3⟩, ?_⟩
    have hm0 := Int.emod_nonneg (zs.getD at_ 0) (show (n : Int) ≠ 0 by omega)
    have e1 : nx zs len at_ n = ((zs.getD at_ 0 % (n : Int)).toNat, at_ + 1) := if_pos hlt
    refine zs_take rfl (zt_pure rfl ?_)
    refine zs_fin ?_
    refine zk_seq ?_
    refine zc_ret ?_
    refine zk_ret1 (.inr rfl) rfl rfl ⟨?_, ?_, ?_⟩
    · rw [e1]; show _ = Ending.returned (.int .i64 ((zs.getD at_ 0 % (n : Int)).toNat : Int)); rw [Int.toNat_of_nonneg hm0]
    · rw [e1]; exact ⟨h2.no hC3, hrow, hC2.no hC3, h.ge, hlt⟩
    · exact (((hCa.mono (S' := (· = bt)) (fun _ _ h => h.elim)).trans hU2.chg (fun _ _ h => h))).no hC3
  · have e1 : nx zs len at_ n = (0, at_) := if_neg hlt
    refine zs_rdL rfl want_none rfl (by decide) (fun _ hS => r_cmpB (r := true) rfl rfl rfl (iff_of_true rfl (by omega))) ?_
    refine zs_fin ?_
    refine zk_seq ?_
    refine zc_true rfl ?_
    refine zc_seq ?_
    refine zc_region ?_
    refine zl_pureL rfl ?_
    refine zl_nil ?_
    refine zk_seq ?_
    refine zc_ret ?_
    refine zk_ret_then ?_
    exact zk_ret1 (.inr rfl) rfl rfl ⟨by rw [e1]; rfl, by rw [e1]; exact h1, hC1.mono (fun _ _ h => h.elim)⟩
def mdW : List UInt8 := [100, 105, 118, 32, 112, 32, 98, 32, 97, 32, 115, 112, 97, 110, 32, 115, 101, 99, 116, 105, 111, 110, 32, 104, 49, 32, 104, 50, 32, 117, 108, 32, 108, 105, 32, 116, 97, 98, 108, 101, 32, 116, 98, 111, 100, 121, 32, 116, 114, 32, 116, 100, 32, 105, 109, 103, 32, 98, 114, 32, 101, 109, 32, 115, 99, 114, 105, 112, 116, 32, 97, 114, 116, 105, 99, 108, 101, 32, 98, 108, 111, 99, 107, 113, 117, 111, 116, 101, 32, 112, 114, 101, 32, 99, 111, 100, 101, 32, 105, 32, 115, 118, 103]
def mdN : List (List UInt8) := wordsN [] mdW
theorem mdN_len : mdN.length = 24 := by decide +kernel
theorem mdN_ne : ∀ i, i < 24 → mdN.getD i [] ≠ [] := by decide +kernel
def txT : Nat → ByteArray
  | 0 => ⟨#[111, 110, 101]⟩
  | 1 => ⟨#[32]⟩
  | 2 => ⟨#[116, 119, 111, 44, 32, 116, 104, 114, 101, 101]⟩
  | 3 => ⟨#[10]⟩
  | 4 => ⟨#[228, 184, 150]⟩
  | 5 => ⟨#[102, 111, 117, 114, 46]⟩
  | 6 => ⟨#[97, 32, 108, 111, 110, 103, 32, 116, 101, 120, 116, 44, 32, 119, 105, 116, 104, 32, 99, 111, 109, 109, 97, 115, 44, 32, 97, 110, 100, 32, 109, 111, 114, 101, 32, 111, 102, 32, 105, 116]⟩
  | _ => ⟨#[120]⟩
def ntT : Nat → ByteArray
  | 0 => ⟨#[]⟩
  | _ => ⟨#[110, 111, 116, 101]⟩
def clT : Nat → ByteArray
  | 0 => ⟨#[109, 97, 105, 110]⟩
  | 1 => ⟨#[102, 111, 111, 116, 101, 114]⟩
  | 2 => ⟨#[115, 112, 111, 110, 115, 111, 114]⟩
  | 3 => ⟨#[101, 110, 116, 114, 121]⟩
  | _ => ⟨#[120]⟩
def hrT : Nat → ByteArray
  | 0 => ⟨#[104, 116, 116, 112, 58, 47, 47, 97, 47, 98]⟩
  | 1 => ⟨#[99]⟩
  | 2 => ⟨#[109, 97, 105, 108, 116, 111, 58, 120]⟩
  | _ => ⟨#[106, 97, 118, 97, 115, 99, 114, 105, 112, 116, 58, 49]⟩
def sCl : ByteArray := ⟨#[99, 108, 97, 115, 115]⟩
def sHr : ByteArray := ⟨#[104, 114, 101, 102]⟩
def elS (zs : List Int) (len at_ : Nat) : Nat × Nat := if (nx zs len at_ 6).1 = 0 then (1 + (nx zs len (nx zs len at_ 6).2 3).1, (nx zs len (nx zs len at_ 6).2 3).2) else (1, (nx zs len at_ 6).2)
def elC (zs : List Int) (len at_ : Nat) : List At × Nat := if (nx zs len at_ 3).1 = 0 then ([(sCl, clT (nx zs len (nx zs len at_ 3).2 5).1)], (nx zs len (nx zs len at_ 3).2 5).2) else ([], (nx zs len at_ 3).2)
def elH (zs : List Int) (len at_ : Nat) : List At × Nat := if (nx zs len at_ 4).1 = 0 then ([(sHr, hrT (nx zs len (nx zs len at_ 4).2 4).1)], (nx zs len (nx zs len at_ 4).2 4).2) else ([], (nx zs len at_ 4).2)
/-- an element's head, and where the tape stands then -/
def elT (zs : List Int) (len at_ : Nat) : Hd × Nat :=
  (⟨1, (elS zs len (nx zs len at_ 24).2).1, bs (mdN.getD (nx zs len at_ 24).1 []), (elC zs len (elS zs len (nx zs len at_ 24).2).2).1 ++ (elH zs len (elC zs len (elS zs len (nx zs len at_ 24).2).2).2).1, ⟨#[]⟩, 0⟩, (elH zs len (elC zs len (elS zs len (nx zs len at_ 24).2).2).2).2)
def itemsT (zs : List Int) (len : Nat) (rec : Nat → NT × Nat) : Nat → Bool → Nat → NT × Nat
  | 0, _, at_ => (.nil, at_)
  | m + 1, pt, at_ =>
    if at_ < len then
      if (nx zs len at_ 6).1 < 2 ∧ pt = false then
        (.cons ⟨2, 0, ⟨#[]⟩, [], txT (nx zs len (nx zs len at_ 6).2 8).1, 0⟩ .nil (itemsT zs len rec m true (nx zs len (nx zs len at_ 6).2 8).2).1, (itemsT zs len rec m true (nx zs len (nx zs len at_ 6).2 8).2).2)
      else if (nx zs len at_ 6).1 = 2 then
        (.cons ⟨3, 0, ⟨#[]⟩, [], ntT (nx zs len (nx zs len at_ 6).2 2).1, 0⟩ .nil (itemsT zs len rec m false (nx zs len (nx zs len at_ 6).2 2).2).1, (itemsT zs len rec m false (nx zs len (nx zs len at_ 6).2 2).2).2)
      else
        (.cons (elT zs len (nx zs len at_ 6).2).1 (rec (elT zs len (nx zs len at_ 6).2).2).1 (itemsT zs len rec m false (rec (elT zs len (nx zs len at_ 6).2).2).2).1, (itemsT zs len rec m false (rec (elT zs len (nx zs len at_ 6).2).2).2).2)
    else (.nil, at_)
def madeT (zs : List Int) (len : Nat) : Nat → Nat → NT × Nat
  | 0, at_ => itemsT zs len (fun a => (.nil, a)) (1 + (nx zs len at_ 4).1) false (nx zs len at_ 4).2
  | d + 1, at_ => itemsT zs len (madeT zs len d) (1 + (nx zs len at_ 4).1) false (nx zs len at_ 4).2
end Go.Proofs.Yteeibieaapiomaa.D
/- SMap -/
/- A map from names to numbers in memory. Over any program. -/
namespace Go.Z
open Go Go.MapKept
/-- the map in block r tells m -/
def MpI (w : World) (r : Nat) (m : ByteArray → Int) : Prop :=
  ∃ es c, w.heap[r]? = some (.map es c) ∧ (∀ x ∈ es.toList, ∃ s, x.key = .string s ∧ x.val = .int .i64 (m s)) ∧ (∀ i j, i < es.size → j < es.size → i ≠ j → (es[i]?.map (·.key)) ≠ (es[j]?.map (·.key))) ∧ ∀ s, (∀ x ∈ es.toList, x.key ≠ .string s) → m s = 0
section
variable {w w' : World} {r : Nat} {m : ByteArray → Int} {S : Nat → Prop}
theorem MpI.lt (h : MpI w r m) : r < w.heap.size := by
  obtain ⟨es, c, h1, _⟩ := h
  exact (Array.getElem?_eq_some_iff.1 h1).1
theorem MpI.chg (h : MpI w r m) (hc : Chg w w' S) (hn : ¬ S r) : MpI w' r m := by
  have hlt := h.lt
  obtain ⟨es, c, h1, h2⟩ := h
  exact ⟨es, c, (hc.same r hlt hn).trans h1, h2⟩
theorem MpI.no (h : MpI w r m) (hc : Chg w w' No) : MpI w' r m := h.chg hc id
theorem MpI.ne (h : MpI w r m) {b t : Nat} {cs : List Value} (hb : Blk w b t cs) : b ≠ r := by
  rintro rfl
  obtain ⟨es, c, h1, _⟩ := h
  unfold Blk at hb
  rw [h1] at hb; cases hb
def updM (m : ByteArray → Int) (k : ByteArray) (z : Int) : ByteArray → Int := fun s => if s = k then z else m s
variable {P : Program} {n : Nat} {e : Env} {Q : Exit → Act → World → Prop} {ops : Array Oper} {rest : List Oper}
theorem run_lookup {t kt et : TypeId} {k : ByteArray} (hu : P.underlying t = some (.map kt et)) (hk : P.underlying kt = some .string) (hz : (zeroValue et).run P w = .ok (.int .i64 0) w) (h : MpI w r m) :
    (Instr.lookup t (.map (some r)) (.string k) false).run P w = .ok (.int .i64 (m k)) w := by
  obtain ⟨es, c, h1, h2, _, h4⟩ := h
  have hks : ∀ x ∈ es.toList, IsKey .string x.key := fun x hx => by
    obtain ⟨s, hs, _⟩ := h2 x hx; rw [hs]; trivial
  have hkk : IsKey .string (Value.string k) := trivial
  rcases findNow_spec hkk es.toList 0 hks with ⟨g1, g2⟩ | ⟨j, x, g1, g2, g3⟩
  · simp [Instr.lookup, run_underlying hu, Go.MapKept.run_getObj_map h1, Go.MapKept.run_checkKey hk hkk, Go.MapKept.run_findKey hk g1, Result.andThen, hz, h4 k g2]
  · have hx : x ∈ es.toList := List.mem_iff_getElem?.2 ⟨j, g2⟩
    obtain ⟨s, hs, hv⟩ := h2 x hx
    rw [g3] at hs; cases hs
    simp [Instr.lookup, run_underlying hu, Go.MapKept.run_getObj_map h1, Go.MapKept.run_checkKey hk hkk, Go.MapKept.run_findKey hk g1, Result.andThen, hv]
theorem run_mapUpd {t kt et : TypeId} {k : ByteArray} {z : Int} (hu : P.underlying t = some (.map kt et)) (hk : P.underlying kt = some .string) (h : MpI w r m) :
    ∃ w', (Instr.mapUpdate t (.map (some r)) (.string k) (.int .i64 z)).run P w = .ok () w' ∧ MpI w' r (updM m k z) ∧ Chg w w' (· = r) ∧ w'.heap.size = w.heap.size := by
  obtain ⟨es, c, h1, h2, h3, h4⟩ := h
  have hks : ∀ x ∈ es.toList, IsKey .string x.key := fun x hx => by
    obtain ⟨s, hs, _⟩ := h2 x hx; rw [hs]; trivial
  have hkk : IsKey .string (Value.string k) := trivial
  have hch : ∀ o : Obj, Chg w { w with heap := w.heap.setIfInBounds r o } (· = r) := fun o => ⟨rfl, rfl, rfl, by simp, fun j _ hj => by simp [Ne.symm hj]⟩
  rcases findNow_spec hkk es.toList 0 hks with ⟨g1, g2⟩ | ⟨j, x, g1, g2, g3⟩
  · refine ⟨{ w with heap := w.heap.setIfInBounds r (.map (es.push { key := .string k, val := .int .i64 z, born := c }) (c + 1)) }, ?_, ⟨_, _, (Go.MapKept.heap_set h1).1, ?_, ?_, ?_⟩, hch _, by simp⟩
    · simp [Instr.mapUpdate, run_underlying hu, Go.MapKept.run_getObj_map h1, Go.MapKept.run_checkKey hk hkk, Go.MapKept.run_findKey hk g1, Go.MapKept.run_setObj_map _ h1, Result.andThen]
    · intro y hy
      simp only [Array.toList_push, List.mem_append, List.mem_singleton] at hy
      rcases hy with hy | rfl
      · obtain ⟨s, hs, hv⟩ := h2 y hy
        refine ⟨s, hs, ?_⟩
        have : s ≠ k := fun he => g2 y hy (by rw [hs, he])
        rw [hv]; unfold updM; rw [if_neg this]
      · exact ⟨k, rfl, by unfold updM; rw [if_pos rfl]⟩
    · have hno : ∀ i, i < es.size → (es[i]?.map (·.key)) ≠ some (.string k) := fun i hi he => by
        obtain ⟨y, hy, hyk⟩ := Option.map_eq_some_iff.1 he
        exact g2 y (by rw [Array.mem_toList_iff, Array.mem_iff_getElem?]; exact ⟨i, hy⟩) hyk
      intro i j hi hj hij
      simp only [Array.size_push] at hi hj
      simp only [Array.getElem?_push]
      by_cases h5 : i = es.size
      · rw [if_pos h5, if_neg (by omega)]
        exact fun he => hno j (by omega) he.symm
      · rw [if_neg h5]
        by_cases h6 : j = es.size
        · rw [if_pos h6]; exact hno i (by omega)
        · rw [if_neg h6]; exact h3 i j (by omega) (by omega) hij
    · intro s hs
      have hsk : s ≠ k := fun he => hs { key := .string k, val := .int .i64 z, born := c } (by simp) (by rw [he])
      unfold updM; rw [if_neg hsk]
      exact h4 s (fun y hy => hs y (by simp [Array.mem_toList_iff.1 hy]))
  · have hj : es[j]? = some x := by simpa using g2
    refine ⟨{ w with heap := w.heap.setIfInBounds r (.map (es.modify j fun e => { e with key := .string k, val := .int .i64 z }) c) }, ?_, ⟨_, _, (Go.MapKept.heap_set h1).1, ?_, ?_, ?_⟩, hch _, by simp⟩
    · simp [Instr.mapUpdate, run_underlying hu, Go.MapKept.run_getObj_map h1, Go.MapKept.run_checkKey hk hkk, Go.MapKept.run_findKey hk g1, hj, g3, Go.MapKept.run_keyThatStays hkk, Go.MapKept.run_setObj_map _ h1, Result.andThen]
    · intro y hy
      rw [Array.mem_toList_iff, Array.mem_iff_getElem?] at hy
      obtain ⟨i, hi⟩ := hy
      rw [Array.getElem?_modify] at hi
      by_cases hij : j = i
      · subst hij
        rw [if_pos rfl, hj] at hi
        simp only [Option.map_some, Option.some.injEq] at hi
        subst hi
        exact ⟨k, rfl, by unfold updM; rw [if_pos rfl]⟩
      · rw [if_neg hij] at hi
        have hyl : y ∈ es.toList := by rw [Array.mem_toList_iff, Array.mem_iff_getElem?]; exact ⟨i, hi⟩
        obtain ⟨s, hs, hv⟩ := h2 y hyl
        refine ⟨s, hs, ?_⟩
        have hjl : j < es.size := (Array.getElem?_eq_some_iff.1 hj).1
        have hil : i < es.size := (Array.getElem?_eq_some_iff.1 hi).1
        have : s ≠ k := fun he => h3 j i hjl hil hij (by rw [hj, hi]; simp [g3, hs, he])
        rw [hv]; unfold updM; rw [if_neg this]
    · intro a b ha hb hab
      have hm : ∀ i : Nat, ((es.modify j fun e => { e with key := .string k, val := .int .i64 z })[i]?.map MapEntry.key) = (es[i]?.map MapEntry.key) := fun i => by
        rw [Array.getElem?_modify]
        by_cases hij : j = i
        · subst hij; rw [if_pos rfl, hj]; simp [g3]
        · rw [if_neg hij]
      have h5 := hm a
      have h6 := hm b
      show ¬ _ = _
      rw [h5, h6]
      exact h3 a b (by simpa using ha) (by simpa using hb) hab
    · intro s hs
      have hsk : s ≠ k := fun he => hs { x with key := .string k, val := .int .i64 z } (by
        rw [Array.mem_toList_iff, Array.mem_iff_getElem?]
        exact ⟨j, by rw [Array.getElem?_modify, if_pos rfl, hj]; rfl⟩) (by rw [he])
      unfold updM; rw [if_neg hsk]
      refine h4 s (fun y hy => ?_)
      rw [Array.mem_toList_iff, Array.mem_iff_getElem?] at hy
      obtain ⟨i, hi⟩ := hy
      by_cases hij : j = i
      · subst hij
        rw [hj] at hi; cases hi
        rw [g3]; exact fun he => hsk (by cases he; rfl)
      · exact hs y (by rw [Array.mem_toList_iff, Array.mem_iff_getElem?]; exact ⟨i, by rw [Array.getElem?_modify, if_neg hij]; exact hi⟩)
variable {d : Tmp} {ty : TypeId} {pos : String} {aft : Array Edge} {g : Option (Nat × Bool)}
theorem r_lookup {t kt et : TypeId} {x y : Operand} {k : ByteArray} (hu : P.underlying t = some (.map kt et)) (hk : P.underlying kt = some .string) (hz : ∀ w, (zeroValue et).run P w = .ok (.int .i64 0) w) (hx : ev e x = some (.map (some r))) (hy : ev e y = some (.string k)) (h : MpI w r m) :
    Rd P n e w ⟨some d, .lookup t x y false, ty, pos, aft, g⟩ (.int .i64 (m k)) := fun a ha => by
  simp [execOp, ha.ev hx, ha.ev hy, run_lookup hu hk (hz w) h]
theorem run_upd {t kt et : TypeId} {x y v : Operand} {k : ByteArray} {z : Int} (hu : P.underlying t = some (.map kt et)) (hk : P.underlying kt = some .string) (hx : ev e x = some (.map (some r))) (hy : ev e y = some (.string k)) (hv : ev e v = some (.int .i64 z)) (h : MpI w r m) :
    ∃ w', (∀ a, Ok n e a → (execOp a.eval (⟨none, .mapUpdate t x y v, ty, pos, aft, g⟩ : Oper)).run P w = .ok .skip w') ∧ MpI w' r (updM m k z) ∧ Chg w w' (· = r) ∧ w'.heap.size = w.heap.size := by
  obtain ⟨w', h1, h2⟩ := run_mapUpd (P := P) (k := k) (z := z) hu hk h
  exact ⟨w', fun a ha => by simp [execOp, ha.ev hx, ha.ev hy, ha.ev hv, h1], h2⟩
theorem zs_mapUpdL {ks : List Nat} {S : World → Prop} {i : Nat} {t kt et : TypeId} {x y v : Operand} {k : ByteArray} {z : Int} (hi : ops[i]? = some ⟨none, .mapUpdate t x y v, ty, pos, aft, g⟩) (hw : Want ops e g) (hu : P.underlying t = some (.map kt et)) (hk : P.underlying kt = some .string) (hx : ev e x = some (.map (some r))) (hy : ev e y = some (.string k)) (hv : ev e v = some (.int .i64 z)) (hm : MpI w r m)
    (h : ∀ w', MpI w' r (updM m k z) → Chg w w' (· = r) → w'.heap.size = w.heap.size → ZK n .normal e w' Q) : ZS P n ops ks S (.last i) e w Q := by
  obtain ⟨w', hr, g1, g2, g3⟩ := run_upd (P := P) (n := n) (ty := ty) (pos := pos) (aft := aft) (g := g) hu hk hx hy hv hm
  exact zs_runUL hi hw rfl hr (h w' g1 g2 g3)
theorem z_makeMap {t : TypeId} (hw : Want ops e g) (hdn : d < n) (h : ∀ w' r, MpI w' r (fun _ => 0) → Chg w w' No → r = w.heap.size → w'.heap.size = w.heap.size + 1 → ZL P n ops rest ((d, .map (some r)) :: e) w' Q) :
    ZL P n ops (⟨some d, .makeMap t none, ty, pos, aft, g⟩ :: rest) e w Q := by
  refine zl_run (v := .map (some w.heap.size)) (w' := { w with heap := w.heap.push (.map #[] 0) }) hw rfl hdn (fun a ha => by simp [execOp, Instr.makeMap, newObj, Sem.run]) (h _ _ ⟨#[], 0, by simp, by simp, fun i j hi => by simp at hi, fun _ _ => rfl⟩ ⟨rfl, rfl, rfl, by simp, fun k hk _ => by simp [Array.getElem?_push, Nat.ne_of_lt hk]⟩ rfl (by simp))
end
end Go.Z
/- SSite -/
/- A Site in memory; what is asked of its open elements. -/
namespace Go.Z
open Go
section
variable {P : Program} {n : Nat} {e : Env} {w : World} {Q : Exit → Act → World → Prop} {ops : Array Oper} {rest : List Oper}
theorem z_field {d : Tmp} {ty : TypeId} {pos : String} {aft : Array Edge} {g : Option (Nat × Bool)} {s f : Nat} {x : Operand} {v u : Value} (hw : Want ops e g) (hdn : d < n) (hx : ev e x = some v) (hf : (Instr.field s v f).run P w = .ok u w) (h : ZL P n ops rest ((d, u) :: e) w Q) :
    ZL P n ops (⟨some d, .field s x f, ty, pos, aft, g⟩ :: rest) e w Q := zl_run hw rfl hdn (fun a ha => by simp [execOp, ha.ev hx, hf]) h
end
end Go.Z
namespace Go.Proofs.Yteeibieaapiomaa.D
open Go Go.Z Go.Proofs
set_option linter.unusedVariables false
structure Ent where
  n : Nat
  sp : Int
  nm : ByteArray
def en0 : Ent := ⟨0, 1, ⟨#[]⟩⟩
def Ent.cells (e : Ent) : List Value := [.int .i64 e.n, .int .i64 e.sp, .string e.nm]
def encE : List Ent → List Value
  | [] => []
  | e :: r => .int .i64 e.n :: .int .i64 e.sp :: .string e.nm :: encE r
theorem encE_len : ∀ l : List Ent, (encE l).length = l.length * 3
  | [] => rfl
  | m :: r => by simp [encE, encE_len r]; omega
theorem encE_app : ∀ l r : List Ent, encE (l ++ r) = encE l ++ encE r
  | [], r => rfl
  | m :: l, r => by simp [encE, encE_app l r]
theorem encE_one : ∀ (l : List Ent), ∀ u ∈ encE l, u.oneCell' = true
  | [], u, h => by simp [encE] at h
  | m :: r, u, h => by
    simp only [encE, List.mem_cons] at h
    rcases h with rfl | rfl | rfl | h
    · rfl
    · rfl
    · rfl
    · exact encE_one r u h
theorem encE_get : ∀ (l : List Ent) (i : Nat), i < l.length → ∀ j u, (l.getD i en0).cells[j]? = some u → (encE l)[i * 3 + j]? = some u
  | [], i, h, j, u, hu => by simp at h
  | m :: l, 0, h, j, u, hu => by
    have hj : j < 3 := (List.getElem?_eq_some_iff.1 hu).1
    simp only [List.getD_cons_zero] at hu
    match j, hj with
    | 0, _ | 1, _ | 2, _ => simpa [encE, Ent.cells] using hu
  | m :: l, i + 1, h, j, u, hu => by
    have := encE_get l i (by simpa using h) j u (by simpa using hu)
    rw [show (i + 1) * 3 + j = i * 3 + j + 1 + 1 + 1 by omega]
    simpa [encE] using this
theorem encE_take : ∀ (l : List Ent) (k : Nat), encE (l.take k) = (encE l).take (k * 3)
  | [], k => by simp [encE]
  | m :: l, 0 => by simp [encE]
  | m :: l, k + 1 => by simp [encE, encE_take l k, show (k + 1) * 3 = k * 3 + 1 + 1 + 1 by omega]
theorem encE_drop : ∀ (l : List Ent) (k : Nat), encE (l.drop k) = (encE l).drop (k * 3)
  | [], k => by simp [encE]
  | m :: l, 0 => by simp [encE]
  | m :: l, k + 1 => by simp [encE, encE_drop l k, show (k + 1) * 3 = k * 3 + 1 + 1 + 1 by omega]
def boolC (l : List Bool) : List Value := l.map (fun b => .bool b)
theorem boolC_len (l : List Bool) : (boolC l).length = l.length * 1 := by simp [boolC]
theorem boolC_get (l : List Bool) (i : Nat) (h : i < l.length) : (boolC l)[i]? = some (.bool (l.getD i false)) := by
  simp [boolC, List.getElem?_map, List.getElem?_eq_getElem h, List.getD_eq_getElem?_getD]
structure SP where
  pd : Nat
  pm : Nat
  vl : Value
  Q : List PN
  vm : Value
  vo : Value
  vi : Value
  r : Nat
structure IsS (w : World) (s : Nat) (q : SP) (E : List Ent) (I : List Bool) (m : ByteArray → Int) (N : List ND) (f : Bool) : Prop where
  blk : Blk w s 72 [.pointer (some ⟨q.pd, 0, none⟩), .pointer (some ⟨q.pm, 0, none⟩), q.vo, q.vi, .map (some q.r), .bool f]
  doc : IsD w q.pd q.vl q.Q N
  mrk : Blk w q.pm 91 [q.vm]
  own : Own w 74 3 q.vo E.length (encE E)
  iso : Own w 4 1 q.vi I.length (boolC I)
  mp : MpI w q.r m
def footS (s : Nat) (q : SP) (k : Nat) : Prop := k = s ∨ q.vo.ownBlock = some k ∨ q.vi.ownBlock = some k ∨ k = q.r ∨ foot q.pd q.vl q.Q k
section
variable {w w' : World} {s : Nat} {q : SP} {E : List Ent} {I : List Bool} {m : ByteArray → Int} {N : List ND} {f : Bool} {S : Nat → Prop}
theorem IsD.noT {p : Nat} {vl : Value} {Q : List PN} (h : IsD w p vl Q N) {b t : Nat} {cs : List Value} (hb : Blk w b t cs) (h1 : t ≠ 102) (h2 : t ≠ 76) (h3 : t ≠ 80) (h4 : t ≠ 5) (h5 : t ≠ 3) : ¬ foot p vl Q b := by
  rintro (he | he | ⟨i, hi, he⟩)
  · exact hb.ne h.blk h1 he
  · exact h.row.ne he hb (Ne.symm h2) rfl
  · exact (h.at_ i (by rw [← h.len]; exact hi)).ne he hb h3 h4 h5 rfl
theorem OwnB.blk' {t : Nat} {v : Value} {l : List UInt8} (h : OwnB w t v l) {k : Nat} (hk : v.ownBlock = some k) {r : Nat} (hm : MpI w r m) : k ≠ r := by
  rintro rfl
  obtain ⟨es, c, h1, _⟩ := hm
  rcases h with ⟨rfl, _⟩ | ⟨b, cap, junk, fz, rfl, h2⟩
  · cases hk
  · simp only [Value.ownBlock, Option.some.injEq] at hk
    subst hk
    have := h2
    simp_all
theorem IsS.no (h : IsS w s q E I m N f) (hc : Chg w w' No) : IsS w' s q E I m N f := ⟨h.blk.no hc, h.doc.no hc, h.mrk.no hc, h.own.no hc, h.iso.no hc, h.mp.no hc⟩
theorem IsS.lt (h : IsS w s q E I m N f) : ∀ k, footS s q k → k < w.heap.size := by
  rintro k (rfl | hk | hk | rfl | hk)
  · exact h.blk.lt
  · exact h.own.lt hk
  · exact h.iso.lt hk
  · exact h.mp.lt
  · exact h.doc.lt k hk
theorem IsS.at_ (h : IsS w s q E I m N f) (i : Nat) (hi : i < E.length) : ∃ b o c, q.vo = .slice (some ⟨b, o, none⟩) E.length c ∧ w.cell? ⟨b, o + i * 3, none⟩ = some (.int .i64 (E.getD i en0).n) ∧ w.cell? ⟨b, o + i * 3 + 1, none⟩ = some (.int .i64 (E.getD i en0).sp) ∧ w.cell? ⟨b, o + i * 3 + 2, none⟩ = some (.string (E.getD i en0).nm) := by
  obtain ⟨b, o, c, hv, _, hc⟩ := RdS.some h.own.rd (by omega)
  have hg := encE_get E i hi
  exact ⟨b, o, c, hv, by have := hc _ _ (hg 0 _ rfl); exact this, by have := hc _ _ (hg 1 _ rfl); rwa [← Nat.add_assoc] at this, by have := hc _ _ (hg 2 _ rfl); rwa [← Nat.add_assoc] at this⟩
theorem agg3 {b o o' : Nat} {v0 v1 v2 : Value} (h0 : w.cell? ⟨b, o', none⟩ = some v0) (h1 : w.cell? ⟨b, o' + 1, none⟩ = some v1) (h2 : w.cell? ⟨b, o' + 2, none⟩ = some v2) (he : o = o') : ∀ j u, [v0, v1, v2][j]? = some u → w.cell? ((⟨b, o, none⟩ : Addr).add j) = some u := by
  subst he; intro j u hj; rw [addr_add]
  match j, hj with
  | 0, hj => simp at hj; subst hj; exact h0
  | 1, hj => simp at hj; subst hj; exact h1
  | 2, hj => simp at hj; subst hj; exact h2
theorem sDoc_calls (h : IsS w s q E I m N f) : Calls Try.prog 10 [.pointer (some ⟨s, 0, none⟩)].toArray w fun e w' => e = .returned (.pointer (some ⟨q.pd, 0, none⟩)) ∧ w' = w := by
  have hb := h.blk
  refine calls_zc (n := 7) (f := 10) (fn := Try.f10) Try.func10 rfl rfl (by simp) ?_
  refine zc_seq ?_
  refine zc_region ?_
  refine zl_pureL rfl ?_
  refine zl_nil ?_
  refine zk_seq ?_
  refine zc_seq ?_
  refine zc_region ?_
  iterate 2 (refine zl_pureL rfl ?_)
  refine z_fa want_none (by decide) rfl ?_
  refine z_loadB want_none (by decide) rfl (by assumption) (by rfl) ?_
  refine zl_pureL rfl ?_
  refine zl_nil ?_
  refine zk_seq ?_
  refine zc_ret ?_
  exact zk_ret1 (.inr rfl) rfl rfl ⟨rfl, rfl⟩
theorem sMarks_calls (h : IsS w s q E I m N f) : Calls Try.prog 22 [.pointer (some ⟨s, 0, none⟩)].toArray w fun e w' => e = .returned (.pointer (some ⟨q.pm, 0, none⟩)) ∧ w' = w := by
  have hb := h.blk
  refine calls_zc (n := 7) (f := 22) (fn := Try.f22) Try.func22 rfl rfl (by simp) ?_
  refine zc_seq ?_
  refine zc_region ?_
  refine zl_pureL rfl ?_
  refine zl_nil ?_
  refine zk_seq ?_
  refine zc_seq ?_
  refine zc_region ?_
  iterate 2 (refine zl_pureL rfl ?_)
  refine z_fa want_none (by decide) rfl ?_
  refine z_loadB want_none (by decide) rfl (by assumption) (by rfl) ?_
  refine zl_pureL rfl ?_
  refine zl_nil ?_
  refine zk_seq ?_
  refine zc_ret ?_
  exact zk_ret1 (.inr rfl) rfl rfl ⟨rfl, rfl⟩
def lastE (E : List Ent) : Ent := E.getD (E.length - 1) en0
theorem sLast_calls (h : IsS w s q E I m N f) (hE : 0 < E.length) (hl : E.length ≤ 1000000) : Calls Try.prog 49 [.pointer (some ⟨s, 0, none⟩)].toArray w fun e w' => e = .returned (.agg #[.int .i64 (lastE E).n, .int .i64 (lastE E).sp, .string (lastE E).nm]) ∧ Chg w w' No := by
  have hb := h.blk
  obtain ⟨b, o, c, hv, h0, h1, h2⟩ := h.at_ (E.length - 1) (by omega)
  rw [hv] at hb
  refine calls_zc (n := 15) (f := 49) (fn := Try.f49) Try.func49 rfl rfl (by simp) ?_
  refine zc_seq ?_
  refine zc_region ?_
  refine z_alloc (by first | exact want_none | exact want_L rfl) (by decide) (fun w1 b1 hN1 => ?_)
  have hb1 : Blk w1 b1 74 [.int .i64 0, .int .i64 0, .string ⟨#[]⟩] := hN1.blk
  have hbs := hb.no hN1.chg
  refine zl_nil ?_
  refine zk_seq ?_
  refine zc_seq ?_
  refine zc_draw [12] (fun w' => Chg w w' No ∧ Blk w' s 72 [.pointer (some ⟨q.pd, 0, none⟩), .pointer (some ⟨q.pm, 0, none⟩), .slice (some ⟨b, o, none⟩) E.length c, q.vi, .map (some q.r), .bool f]) (.take 0 (.take 1 (.take 2 (.take 3 (.take 4 (.take 5 (.take 6 (.take 7 (.take 8 (.take 9 (.take 10 (.take 11 (.last 12))))))))))))) (by rfl) (by kernel_rfl) (by kernel_rfl) (fun w2 hC2 _ => ⟨?_, ?_⟩)
  · exact ⟨hN1.chg.no hC2, hbs.no hC2⟩
  have hb12 := hb1.no hC2
  iterate 2 (refine zs_take rfl (zt_pure rfl ?_))
  refine zs_rdL rfl want_none rfl (by decide) (fun _ hS => r_fa rfl) ?_
  refine zs_rdL rfl want_none rfl (by decide) (fun _ hS => r_loadB rfl hS.2 (by rfl)) ?_
  iterate 2 (refine zs_take rfl (zt_pure rfl ?_))
  refine zs_rdL rfl want_none rfl (by decide) (fun _ hS => r_fa rfl) ?_
  refine zs_rdL rfl want_none rfl (by decide) (fun _ hS => r_loadB rfl hS.2 (by rfl)) ?_
  refine zs_rdL rfl want_none rfl (by decide) (fun _ hS => r_len rfl) ?_
  refine zs_rdL rfl want_none rfl (by decide) (fun _ hS => r_sub rfl rfl (by omega) (by omega)) ?_
  refine zs_rdL rfl want_none rfl (by decide) (fun _ hS => r_ia rfl rfl (by omega) (by omega)) ?_
  refine zs_rdL rfl (by first | exact want_none | exact want_L rfl) rfl (by decide) (fun _ hS => r_loadA rfl rfl (agg3 (cell_no hS.1 h0) (cell_no hS.1 h1) (cell_no hS.1 h2) (by omega))) ?_
  skip
  refine zs_storeL rfl (by first | exact want_none | exact want_L rfl) rfl rfl rfl (by assumption) (by first | exact Nat.le_refl _ | simp [Value.cells]) (by simp [Value.cells, Value.oneCell']) (fun w3 hU3 => ?_)
  have hb3 : Blk w3 b1 74 [.int .i64 (lastE E).n, .int .i64 (lastE E).sp, .string (lastE E).nm] := hU3.blk
  refine zk_seq ?_
  refine zc_ret ?_
  exact zk_retC (.inr rfl) rfl rfl hb3 rfl ⟨rfl, (hN1.chg.no hC2).upd hU3 (hN1.ge (Chg.refl _ No))⟩
theorem fld3 (w : World) (c0 c1 c2 : Value) : (Instr.field 74 (.agg #[c0, c1, c2]) 0).run Try.prog w = .ok c0 w := by kernel_rfl
end
end Go.Proofs.Yteeibieaapiomaa.D
/- SSite2 -/
/- A Site: opened, fresh, place, Top, Open. -/
namespace Go.Proofs.Yteeibieaapiomaa.D
open Go Go.Z Go.Proofs
set_option linter.unusedVariables false
def opn (I : List Bool) (n : Int) : Prop := 0 ≤ n ∧ n < I.length ∧ I.getD n.toNat false = true
instance (I : List Bool) (n : Int) : Decidable (opn I n) := by unfold opn; infer_instance
section
variable {w w' : World} {s : Nat} {q : SP} {E : List Ent} {I : List Bool} {m : ByteArray → Int} {N : List ND} {f : Bool}
theorem sTop_calls (h : IsS w s q E I m N f) (hE : 0 < E.length) (hl : E.length ≤ 1000000) : Calls Try.prog 21 [.pointer (some ⟨s, 0, none⟩)].toArray w fun e w' => e = .returned (.int .i64 (lastE E).n) ∧ Chg w w' No := by
  refine calls_zc (n := 6) (f := 21) (fn := Try.f21) Try.func21 rfl rfl (by simp) ?_
  refine zc_seq ?_
  refine zc_region ?_
  refine zl_pureL rfl ?_
  refine zl_nil ?_
  refine zk_seq ?_
  refine zc_seq ?_
  refine zc_region ?_
  refine zl_pureL rfl ?_
  refine zl_call (by first | exact want_none | exact want_L rfl) rfl (by decide) rfl (sLast_calls h hE hl) ?_
  rintro _ w1 ⟨rfl, hC1⟩
  refine ⟨_, rfl, ?_⟩
  refine z_field (by first | exact want_none | exact want_L rfl) (by decide) rfl (fld3 _ _ _ _) ?_
  refine zl_pureL rfl ?_
  refine zl_nil ?_
  refine zk_seq ?_
  refine zc_ret ?_
  exact zk_ret1 (.inr rfl) rfl rfl ⟨rfl, hC1⟩
theorem sOpened_calls (h : IsS w s q E I m N f) (n : Int) : Calls Try.prog 84 [.pointer (some ⟨s, 0, none⟩), .int .i64 n].toArray w fun e w' => e = .returned (.bool (decide (opn I n))) ∧ w' = w := by
  have hb := h.blk
  obtain ⟨A, c, hv, hc⟩ := h.iso.rd.form
  rw [hv] at hb
  refine calls_zc (n := 25) (f := 84) (fn := Try.f84) Try.func84 rfl rfl (by simp) ?_
  by_cases h0 : 0 ≤ n
  · by_cases h1 : n < I.length
    · obtain ⟨i, rfl⟩ := Int.eq_ofNat_of_zero_le h0
      obtain ⟨b, o, c', hv', _, hcc⟩ := RdS.some h.iso.rd (by omega)
      rw [hv] at hv'
      cases hv'
      have hcell := hcc i _ (boolC_get I i (by omega))
      refine zc_seq ?_
      refine zc_region ?_
      refine zl_pureL rfl ?_
      refine zl_nil ?_
      refine zk_seq ?_
      refine zc_seq ?_
      refine zc_region ?_
      refine zl_pureL rfl ?_
      refine z_cmpB (r := true) want_none (by decide) rfl rfl rfl (iff_of_true rfl (by omega)) ?_
      iterate 4 (refine zl_pureL rfl ?_)
      refine z_fa (want_L rfl) (by decide) rfl ?_
      refine z_loadB (want_L rfl) (by decide) rfl (by assumption) (by rfl) ?_
      refine z_len (want_L rfl) (by decide) rfl ?_
      refine z_cmpB (r := true) (want_L rfl) (by decide) rfl rfl rfl (iff_of_true rfl (by omega)) ?_
      iterate 4 (refine zl_pureL rfl ?_)
      refine z_fa (want_L rfl) (by decide) rfl ?_
      refine z_loadB (want_L rfl) (by decide) rfl (by assumption) (by rfl) ?_
      refine zl_pureL rfl ?_
      refine z_ia (want_L rfl) (by decide) rfl rfl (by omega) (by omega) ?_
      refine z_load1 (by first | exact want_none | exact want_L rfl) (by decide) rfl (cell_at hcell (by omega)) ?_
      have e : decide (opn I (i : Nat)) = I.getD i false := by
        unfold opn
        simp [h0, h1]
      rw [e]
      cases hq : I.getD i false
      · iterate 2 (refine zl_pureL rfl ?_)
        refine zl_nil ?_
        refine zk_seq ?_
        refine zc_ret ?_
        exact zk_ret1 (.inr rfl) rfl rfl ⟨rfl, rfl⟩
      · iterate 2 (refine zl_pureL rfl ?_)
        refine zl_nil ?_
        refine zk_seq ?_
        refine zc_ret ?_
        exact zk_ret1 (.inr rfl) rfl rfl ⟨rfl, rfl⟩
    · have e : decide (opn I n) = false := decide_eq_false (fun hh => h1 hh.2.1)
      rw [e]
      refine zc_seq ?_
      refine zc_region ?_
      refine zl_pureL rfl ?_
      refine zl_nil ?_
      refine zk_seq ?_
      refine zc_seq ?_
      refine zc_region ?_
      refine zl_pureL rfl ?_
      refine z_cmpB (r := true) want_none (by decide) rfl rfl rfl (iff_of_true rfl (by omega)) ?_
      iterate 4 (refine zl_pureL rfl ?_)
      refine z_fa (want_L rfl) (by decide) rfl ?_
      refine z_loadB (want_L rfl) (by decide) rfl (by assumption) (by rfl) ?_
      refine z_len (want_L rfl) (by decide) rfl ?_
      refine z_cmpB (r := false) (want_L rfl) (by decide) rfl rfl rfl (iff_of_false Bool.false_ne_true (by omega)) ?_
      iterate 4 (refine zl_pureL rfl ?_)
      iterate 2 (refine zl_skip rfl ?_)
      refine zl_pureL rfl ?_
      iterate 2 (refine zl_skip rfl ?_)
      iterate 2 (refine zl_pureL rfl ?_)
      refine zl_nil ?_
      refine zk_seq ?_
      refine zc_ret ?_
      exact zk_ret1 (.inr rfl) rfl rfl ⟨rfl, rfl⟩
  · have e : decide (opn I n) = false := decide_eq_false (fun hh => h0 hh.1)
    rw [e]
    refine zc_seq ?_
    refine zc_region ?_
    refine zl_pureL rfl ?_
    refine zl_nil ?_
    refine zk_seq ?_
    refine zc_seq ?_
    refine zc_region ?_
    refine zl_pureL rfl ?_
    refine z_cmpB (r := false) want_none (by decide) rfl rfl rfl (iff_of_false Bool.false_ne_true (by omega)) ?_
    iterate 4 (refine zl_pureL rfl ?_)
    iterate 4 (refine zl_skip rfl ?_)
    iterate 4 (refine zl_pureL rfl ?_)
    iterate 2 (refine zl_skip rfl ?_)
    refine zl_pureL rfl ?_
    iterate 2 (refine zl_skip rfl ?_)
    iterate 2 (refine zl_pureL rfl ?_)
    refine zl_nil ?_
    refine zk_seq ?_
    refine zc_ret ?_
    exact zk_ret1 (.inr rfl) rfl rfl ⟨rfl, rfl⟩
def freshB (N : List ND) (I : List Bool) (n : Int) : Bool := decide ((nodeOf N n).kind = 1 ∧ ¬ opn I n)
set_option maxRecDepth 100000 in
set_option maxHeartbeats 8000000 in
theorem sFresh_calls (h : IsS w s q E I m N f) (hB : BigT N) (n : Int) : Calls Try.prog 50 [.pointer (some ⟨s, 0, none⟩), .int .i64 n].toArray w fun e w' => e = .returned (.tuple #[.agg #[.int .i64 n, .int .i64 (nodeOf N n).space, .string (nodeOf N n).name], .bool (freshB N I n)]) ∧ Chg w w' No := by
  have hb := h.blk
  refine calls_zc (n := 28) (f := 50) (fn := Try.f50) Try.func50 rfl rfl (by simp) ?_
  refine zc_seq ?_
  refine zc_region ?_
  refine z_alloc (by first | exact want_none | exact want_L rfl) (by decide) (fun w1 b1 hN1 => ?_)
  have hb1 : Blk w1 b1 74 [.int .i64 0, .int .i64 0, .string ⟨#[]⟩] := hN1.blk
  have hbs := hb.no hN1.chg
  refine zl_pureL rfl ?_
  refine zl_nil ?_
  refine zk_seq ?_
  refine zc_seq ?_
  refine zc_region ?_
  iterate 2 (refine zl_pureL rfl ?_)
  refine z_fa want_none (by decide) rfl ?_
  refine z_loadB want_none (by decide) rfl (by assumption) (by rfl) ?_
  refine zl_pureL rfl ?_
  refine zl_call (by first | exact want_none | exact want_L rfl) rfl (by decide) rfl (node_calls (h.doc.no hN1.chg) hB n) ?_
  rintro _ w2 ⟨va, rfl, hA2, _, hX2⟩
  have hC2 : Chg w w2 No := hN1.chg.no hX2
  refine ⟨_, rfl, ?_⟩
  obtain ⟨A4, c4, rfl, _⟩ := hA2.form
  skip
  refine z_alloc (by first | exact want_none | exact want_L rfl) (by decide) (fun w3 b3 hN3 => ?_)
  have hb3 : Blk w3 b3 52 [.int .i64 0, .int .i64 0, .string ⟨#[]⟩, .slice none 0 0, .string ⟨#[]⟩, .int .i64 0, .slice none 0 0] := hN3.blk
  refine z_store (by first | exact want_none | exact want_L rfl) rfl rfl rfl (by assumption) (by first | exact Nat.le_refl _ | simp [Value.cells]) (by simp [Value.cells, Value.oneCell']) (fun w4 hU4 => ?_)
  have hb4 : Blk w4 b3 52 [.int .i64 (nodeOf N n).kind, .int .i64 (nodeOf N n).space, .string (nodeOf N n).name, .slice A4 (nodeOf N n).attrs.length c4, .string (bs (nodeOf N n).text), .int .i64 0, .slice none 0 0] := hU4.blk
  have hC4 : Chg w w4 No := (hC2.no hN3.chg).upd hU4 (by have := hN3.at_; have := hC2.size; omega)
  have hb14 : Blk w4 b1 74 [.int .i64 0, .int .i64 0, .string ⟨#[]⟩] := ((hb1.no hX2).no hN3.chg).upd hU4 (by decide)
  have h4 := h.no hC4
  have hne : b1 ≠ b3 := fun he => hb14.ne hb4 (by decide) he
  have hge : w.heap.size ≤ b1 := hN1.ge (Chg.refl _ No)
  obtain ⟨kd, hkd⟩ : ∃ kd, kd = (nodeOf N n).kind := ⟨_, rfl⟩
  have hfb : freshB N I n = decide (kd = 1 ∧ ¬ opn I n) := by unfold freshB; rw [hkd]
  rw [← hkd] at hb4
  by_cases hk1 : kd = 1
  · refine zl_nil ?_
    refine zk_seq ?_
    refine zc_seq ?_
    refine zc_draw [] (fun w' => Blk w' b3 52 [.int .i64 kd, .int .i64 (nodeOf N n).space, .string (nodeOf N n).name, .slice A4 (nodeOf N n).attrs.length c4, .string (bs (nodeOf N n).text), .int .i64 0, .slice none 0 0]) (.take 0 (.take 1 (.take 2 (.take 3 (.take 4 (.take 5 (.take 6 (.take 7 (.take 8 (.take 9 (.take 10 (.take 11 (.all1 12 (.take 13 (.take 14 (.all1 15 (.take 16 (.fin)))))))))))))))))) (by rfl) (by kernel_rfl) (by kernel_rfl) (fun w5 hC5 _ => ⟨?_, ?_⟩)
    · exact hb4.no hC5
    refine zs_take rfl (zt_pure rfl ?_)
    refine zs_rdL rfl want_none rfl (by decide) (fun _ hS => r_fa rfl) ?_
    refine zs_rdL rfl want_none rfl (by decide) (fun _ hS => r_loadB rfl hS (by rfl)) ?_
    refine zs_rdL rfl want_none rfl (by decide) (fun _ hS => r_fa rfl) ?_
    refine zs_rdL rfl want_none rfl (by decide) (fun _ hS => r_loadB rfl hS (by rfl)) ?_
    refine zs_rdL rfl (by first | exact want_none | exact want_L rfl) rfl (by decide) (fun _ hS => r_build' (cells := #[.int .i64 n, .int .i64 (nodeOf N n).space, .string (nodeOf N n).name]) rfl (by kernel_rfl)) ?_
    refine zs_rdL rfl want_none rfl (by decide) (fun _ hS => r_fa rfl) ?_
    refine zs_rdL rfl want_none rfl (by decide) (fun _ hS => r_loadB rfl hS (by rfl)) ?_
    refine zs_rdL rfl want_none rfl (by decide) (fun _ hS => r_cmpB (r := true) rfl rfl rfl (iff_of_true rfl (by omega))) ?_
    iterate 3 (refine zs_take rfl (zt_pure rfl ?_))
    refine zs_call rfl (by first | exact want_none | exact want_L rfl) rfl (by decide) rfl (sOpened_calls (h4.no hC5) n) ?_
    rintro _ u ⟨rfl, hu⟩
    obtain rfl := hu.symm
    refine ⟨_, rfl, hb4.no hC5, ?_⟩
    have hb5 := hb14.no hC5
    rw [hfb]
    by_cases ho : opn I n
    · rw [decide_eq_true ho, decide_eq_false (show ¬ (kd = 1 ∧ ¬ opn I n) from fun hh => hh.2 ho)]
      iterate 2 (refine zs_take rfl (zt_pure rfl ?_))
      refine zs_store rfl (by first | exact want_none | exact want_L rfl) rfl rfl rfl (by assumption) (by first | exact Nat.le_refl _ | simp [Value.cells]) (by simp [Value.cells, Value.oneCell']) (fun w6 hU6 => ?_)
      have hb6 : Blk w6 b1 74 [.int .i64 n, .int .i64 (nodeOf N n).space, .string (nodeOf N n).name] := hU6.blk
      refine ⟨(hb4.no hC5).chg hU6.chg (fun he => hne he.symm), ?_⟩
      refine zs_take rfl (zt_pure rfl ?_)
      refine zs_fin ?_
      refine zk_seq ?_
      refine zc_ret ?_
      exact zk_retCT (.inr rfl) rfl rfl rfl hb6 rfl ⟨rfl, (hC4.no hC5).upd hU6 hge⟩
    · rw [decide_eq_false ho, decide_eq_true (show (kd = 1 ∧ ¬ opn I n) from ⟨hk1, ho⟩)]
      iterate 2 (refine zs_take rfl (zt_pure rfl ?_))
      refine zs_store rfl (by first | exact want_none | exact want_L rfl) rfl rfl rfl (by assumption) (by first | exact Nat.le_refl _ | simp [Value.cells]) (by simp [Value.cells, Value.oneCell']) (fun w6 hU6 => ?_)
      have hb6 : Blk w6 b1 74 [.int .i64 n, .int .i64 (nodeOf N n).space, .string (nodeOf N n).name] := hU6.blk
      refine ⟨(hb4.no hC5).chg hU6.chg (fun he => hne he.symm), ?_⟩
      refine zs_take rfl (zt_pure rfl ?_)
      refine zs_fin ?_
      refine zk_seq ?_
      refine zc_ret ?_
      exact zk_retCT (.inr rfl) rfl rfl rfl hb6 rfl ⟨rfl, (hC4.no hC5).upd hU6 hge⟩
  · rw [hfb, decide_eq_false (show ¬ (kd = 1 ∧ ¬ opn I n) from fun hh => hk1 hh.1)]
    refine zl_nil ?_
    refine zk_seq ?_
    refine zc_seq ?_
    refine zc_draw [] (fun w' => Blk w' b3 52 [.int .i64 kd, .int .i64 (nodeOf N n).space, .string (nodeOf N n).name, .slice A4 (nodeOf N n).attrs.length c4, .string (bs (nodeOf N n).text), .int .i64 0, .slice none 0 0]) (.take 0 (.take 1 (.take 2 (.take 3 (.take 4 (.take 5 (.take 6 (.take 7 (.take 8 (.take 9 (.take 10 (.take 11 (.all1 12 (.take 13 (.take 14 (.all1 15 (.take 16 (.fin)))))))))))))))))) (by rfl) (by kernel_rfl) (by kernel_rfl) (fun w5 hC5 _ => ⟨?_, ?_⟩)
    · exact hb4.no hC5
    refine zs_take rfl (zt_pure rfl ?_)
    refine zs_rdL rfl want_none rfl (by decide) (fun _ hS => r_fa rfl) ?_
    refine zs_rdL rfl want_none rfl (by decide) (fun _ hS => r_loadB rfl hS (by rfl)) ?_
    refine zs_rdL rfl want_none rfl (by decide) (fun _ hS => r_fa rfl) ?_
    refine zs_rdL rfl want_none rfl (by decide) (fun _ hS => r_loadB rfl hS (by rfl)) ?_
    refine zs_rdL rfl (by first | exact want_none | exact want_L rfl) rfl (by decide) (fun _ hS => r_build' (cells := #[.int .i64 n, .int .i64 (nodeOf N n).space, .string (nodeOf N n).name]) rfl (by kernel_rfl)) ?_
    refine zs_rdL rfl want_none rfl (by decide) (fun _ hS => r_fa rfl) ?_
    refine zs_rdL rfl want_none rfl (by decide) (fun _ hS => r_loadB rfl hS (by rfl)) ?_
    refine zs_rdL rfl want_none rfl (by decide) (fun _ hS => r_cmpB (r := false) rfl rfl rfl (iff_of_false Bool.false_ne_true (by omega))) ?_
    iterate 3 (refine zs_take rfl (zt_pure rfl ?_))
    refine zs_alone rfl (za_skip rfl ?_)
    iterate 2 (refine zs_take rfl (zt_pure rfl ?_))
    have hb5 := hb14.no hC5
    refine zs_store rfl (by first | exact want_none | exact want_L rfl) rfl rfl rfl (by assumption) (by first | exact Nat.le_refl _ | simp [Value.cells]) (by simp [Value.cells, Value.oneCell']) (fun w6 hU6 => ?_)
    have hb6 : Blk w6 b1 74 [.int .i64 n, .int .i64 (nodeOf N n).space, .string (nodeOf N n).name] := hU6.blk
    refine ⟨(hb4.no hC5).chg hU6.chg (fun he => hne he.symm), ?_⟩
    refine zs_take rfl (zt_pure rfl ?_)
    refine zs_fin ?_
    refine zk_seq ?_
    refine zc_ret ?_
    exact zk_retCT (.inr rfl) rfl rfl rfl hb6 rfl ⟨rfl, (hC4.no hC5).upd hU6 hge⟩
end
end Go.Proofs.Yteeibieaapiomaa.D
/- SSite3 -/
/- A Site that is written: what one change of a block leaves. -/
namespace Go.Z
open Go
section
variable {w w' : World} {R : Nat → Prop} {τ : Nat}
def OneT (w : World) (τ : Nat) (R : Nat → Prop) : Prop := ∀ k, R k → ∃ cs, Blk w k τ cs
theorem Own.typ {t sz m : Nat} {v : Value} {cs : List Value} (h : Own w t sz v m cs) (hc : Chg w w' R) (hR : OneT w τ R) (ht : t ≠ τ) : Own w' t sz v m cs := h.chg hc (fun k hk hs => by obtain ⟨cs', hb⟩ := hR k hs; exact h.ne hk hb ht rfl)
theorem RdS.typ {t sz m : Nat} {v : Value} {cs : List Value} (h : RdS w t sz v m cs) (hc : Chg w w' R) (hR : OneT w τ R) (ht : t ≠ τ) : RdS w' t sz v m cs := RdS.chg h hc (fun b cells hb hs => by obtain ⟨cs', hb2⟩ := hR b hs; exact ht (hb.inj hb2).1)
theorem Blk.typ {b t : Nat} {cs : List Value} (h : Blk w b t cs) (hc : Chg w w' R) (hR : OneT w τ R) (ht : t ≠ τ) : Blk w' b t cs := h.chg hc (fun hs => by obtain ⟨cs', hb2⟩ := hR b hs; exact ht (h.inj hb2).1)
theorem MpI.typ {r : Nat} {m : ByteArray → Int} (h : MpI w r m) (hc : Chg w w' R) (hR : OneT w τ R) : MpI w' r m := h.chg hc (fun hs => by obtain ⟨cs', hb2⟩ := hR r hs; exact h.ne hb2 rfl)
theorem own_b {t sz m : Nat} {v : Value} {cs : List Value} (h : Own w t sz v m cs) (hm : 0 < m) : ∃ b c, v = .slice (some ⟨b, 0, none⟩) m c ∧ m ≤ c := by
  rcases h.cases.2 with ⟨_, h0, _⟩ | ⟨b, cap, junk, hv, hc, _⟩
  · omega
  · exact ⟨b, cap, hv, hc⟩
end
end Go.Z
namespace Go.Proofs.Yteeibieaapiomaa.D
open Go Go.Z Go.Proofs
set_option linter.unusedVariables false
section
variable {w w' w1 w2 : World} {s : Nat} {q q' q1 q2 : SP} {E E' : List Ent} {I I' : List Bool} {m m' : ByteArray → Int} {N N' : List ND} {f : Bool} {R : Nat → Prop} {τ : Nat}
theorem IsD.typ {p : Nat} {vl : Value} {Q : List PN} (h : IsD w p vl Q N) (hc : Chg w w' R) (hR : OneT w τ R) (h1 : τ ≠ 102) (h2 : τ ≠ 76) (h3 : τ ≠ 80) (h4 : τ ≠ 5) (h5 : τ ≠ 3) (h6 : τ ≠ 89) : IsD w' p vl Q N :=
  h.chg hc (fun k hk hs => by obtain ⟨cs, hb⟩ := hR k hs; exact h.noT hb h1 h2 h3 h4 h5 hk) (fun b cells hb hs => by obtain ⟨cs, hb2⟩ := hR b hs; exact h6 (hb.inj hb2).1.symm)
theorem IsD.noM {p : Nat} {vl : Value} {Q : List PN} (h : IsD w p vl Q N) {r : Nat} (hm : MpI w r m) : ¬ foot p vl Q r := by
  rintro (he | he | ⟨i, hi, he | he | he⟩)
  · exact hm.ne h.blk he.symm
  · obtain ⟨cs, hb⟩ := h.row.blk he; exact hm.ne hb rfl
  · exact hm.ne (h.at_ i (by rw [← h.len]; exact hi)).1 he.symm
  · exact OwnB.blk' (h.at_ i (by rw [← h.len]; exact hi)).2.2.1 he hm rfl
  · obtain ⟨cs, hb⟩ := (h.at_ i (by rw [← h.len]; exact hi)).2.2.2.blk he; exact hm.ne hb rfl
theorem IsD.map {p : Nat} {vl : Value} {Q : List PN} (h : IsD w p vl Q N) {r : Nat} (hm : MpI w r m) (hc : Chg w w' (· = r)) : IsD w' p vl Q N :=
  h.chg hc (fun k hk hs => h.noM hm (hs ▸ hk)) (fun b cells hb hs => hm.ne hb hs)
/-- what is of another type is no part of a Site -/
theorem IsS.noT (h : IsS w s q E I m N f) {b t : Nat} {cs : List Value} (hb : Blk w b t cs) (h1 : t ≠ 102) (h2 : t ≠ 76) (h3 : t ≠ 80) (h4 : t ≠ 5) (h5 : t ≠ 3) (h6 : t ≠ 72) (h7 : t ≠ 74) (h8 : t ≠ 4) : ¬ footS s q b := by
  rintro (he | he | he | he | he)
  · exact hb.ne h.blk h6 he
  · exact h.own.ne he hb (Ne.symm h7) rfl
  · exact h.iso.ne he hb (Ne.symm h8) rfl
  · exact h.mp.ne hb he
  · exact h.doc.noT hb h1 h2 h3 h4 h5 he
theorem IsS.isoW (h : IsS w s q E I m N f) (hc : Chg w w' R) (hR : OneT w 4 R) (hI : Own w' 4 1 q.vi I'.length (boolC I')) : IsS w' s q E I' m N f :=
  ⟨h.blk.typ hc hR (by decide), h.doc.typ hc hR (by decide) (by decide) (by decide) (by decide) (by decide) (by decide), h.mrk.typ hc hR (by decide), h.own.typ hc hR (by decide), hI, h.mp.typ hc hR⟩
theorem IsS.ownW (h : IsS w s q E I m N f) (hc : Chg w w' R) (hR : OneT w 74 R) (hO : Own w' 74 3 q.vo E'.length (encE E')) : IsS w' s q E' I m N f :=
  ⟨h.blk.typ hc hR (by decide), h.doc.typ hc hR (by decide) (by decide) (by decide) (by decide) (by decide) (by decide), h.mrk.typ hc hR (by decide), hO, h.iso.typ hc hR (by decide), h.mp.typ hc hR⟩
theorem IsS.mapW (h : IsS w s q E I m N f) (hc : Chg w w' (· = q.r)) (hm : MpI w' q.r m') : IsS w' s q E I m' N f :=
  ⟨h.blk.chg hc (h.mp.ne h.blk), h.doc.map h.mp hc, h.mrk.chg hc (h.mp.ne h.mrk), h.own.chg hc (fun k hk hs => by obtain ⟨cs, hb⟩ := h.own.blk hk; exact h.mp.ne hb hs), h.iso.chg hc (fun k hk hs => by obtain ⟨cs, hb⟩ := h.iso.blk hk; exact h.mp.ne hb hs), hm⟩
/-- another open row, another row of marks of being open, fostering -/
theorem IsS.blkW (h : IsS w s q E I m N f) {vo' vi' : Value} {f' : Bool} (hU : Upd w w' s 72 [.pointer (some ⟨q.pd, 0, none⟩), .pointer (some ⟨q.pm, 0, none⟩), vo', vi', .map (some q.r), .bool f']) (hO : Own w 74 3 vo' E'.length (encE E')) (hI : Own w 4 1 vi' I'.length (boolC I')) : IsS w' s { q with vo := vo', vi := vi' } E' I' m N f' := by
  have hR : OneT w 72 (fun k => k = s) := fun k hk => ⟨_, hk ▸ h.blk⟩
  exact ⟨hU.blk, h.doc.typ hU.chg hR (by decide) (by decide) (by decide) (by decide) (by decide) (by decide), h.mrk.typ hU.chg hR (by decide), hO.typ hU.chg hR (by decide), hI.typ hU.chg hR (by decide), h.mp.typ hU.chg hR⟩
/-- the Doc has changed -/
theorem IsS.docW (h : IsS w s q E I m N f) {vl' : Value} {Q' : List PN} (hD : IsD w' q.pd vl' Q' N') (hw : WrD w w' q.pd q.vl q.Q vl' Q') : IsS w' s { q with vl := vl', Q := Q' } E I m N' f :=
  ⟨h.blk.chg hw.chg (h.doc.noT h.blk (by decide) (by decide) (by decide) (by decide) (by decide)), hD, h.mrk.chg hw.chg (h.doc.noT h.mrk (by decide) (by decide) (by decide) (by decide) (by decide)),
    h.own.chg hw.chg (fun k hk => by obtain ⟨cs, hb⟩ := h.own.blk hk; exact h.doc.noT hb (by decide) (by decide) (by decide) (by decide) (by decide)), h.iso.chg hw.chg (fun k hk => by obtain ⟨cs, hb⟩ := h.iso.blk hk; exact h.doc.noT hb (by decide) (by decide) (by decide) (by decide) (by decide)), h.mp.chg hw.chg (h.doc.noM h.mp)⟩
structure WrS (w w' : World) (s : Nat) (q q' : SP) : Prop where
  chg : Chg w w' (footS s q)
  ft : ∀ k, footS s q' k → footS s q k ∨ w.heap.size ≤ k
theorem WrS.refl (w : World) (s : Nat) (q : SP) : WrS w w s q q := ⟨Chg.refl _ _, fun _ h => .inl h⟩
theorem WrS.trans (h : WrS w w1 s q q1) (k : WrS w1 w2 s q1 q2) : WrS w w2 s q q2 := by
  refine ⟨h.chg.trans k.chg (fun i hi hf => ?_), fun i hf => ?_⟩
  · rcases h.ft i hf with h1 | h1
    · exact h1
    · omega
  · rcases k.ft i hf with h1 | h1
    · exact h.ft i h1
    · exact .inr (Nat.le_trans h.chg.size h1)
theorem WrS.of_no (hc : Chg w w' No) (s : Nat) (q : SP) : WrS w w' s q q := ⟨hc.mono (fun _ _ h => h.elim), fun _ h => .inl h⟩
theorem WrS.no (h : WrS w w1 s q q1) (hc : Chg w1 w2 No) : WrS w w2 s q q1 := h.trans (WrS.of_no hc _ _)
theorem WrS.pre (hc : Chg w w1 No) (h : WrS w1 w2 s q q1) : WrS w w2 s q q1 := (WrS.of_no hc _ _).trans h
theorem WrS.doc {vl' : Value} {Q' : List PN} (hw : WrD w w' q.pd q.vl q.Q vl' Q') : WrS w w' s q { q with vl := vl', Q := Q' } := by
  refine ⟨hw.chg.mono (fun k _ hk => .inr (.inr (.inr (.inr hk)))), ?_⟩
  rintro k (hk | hk | hk | hk | hk)
  · exact .inl (.inl hk)
  · exact .inl (.inr (.inl hk))
  · exact .inl (.inr (.inr (.inl hk)))
  · exact .inl (.inr (.inr (.inr (.inl hk))))
  · exact (hw.ft k hk).imp (fun h => .inr (.inr (.inr (.inr h)))) id
/-- one entry more, one less, of a name -/
def cntM (m : ByteArray → Int) (e : Ent) (d : Int) : ByteArray → Int := if e.sp = 1 then updM m e.nm (m e.nm + d) else m
def SmallM (m : ByteArray → Int) : Prop := ∀ k, -1000000 ≤ m k ∧ m k ≤ 1000000
theorem u69 : (Try.prog).underlying 69 = some (.map 9 3) := Try.underlying69
theorem u9 : (Try.prog).underlying 9 = some .string := Try.underlying9
theorem z3 (w : World) : (zeroValue 3).run Try.prog w = .ok (.int .i64 0) w := by kernel_rfl
set_option maxRecDepth 100000 in
set_option maxHeartbeats 8000000 in
theorem sGoes_calls (h : IsS w s q E I m N f) (e : Ent) (he : e.n < I.length) (hm : SmallM m) : Calls Try.prog 48 [.pointer (some ⟨s, 0, none⟩), .agg #[.int .i64 e.n, .int .i64 e.sp, .string e.nm]].toArray w fun x w' => x = .returned (.tuple #[]) ∧ IsS w' s q E (I.set e.n false) (cntM m e (-1)) N f ∧ WrS w w' s q q := by
  obtain ⟨bi, ci, hvi, hci⟩ := own_b h.iso (by omega)
  have hb := h.blk
  rw [hvi] at hb
  refine calls_zc (n := 22) (f := 48) (fn := Try.f48) Try.func48 rfl rfl (by simp) ?_
  refine zc_seq ?_
  refine zc_region ?_
  refine z_box (by first | exact want_none | exact want_L rfl) (by decide) rfl (fun w1 b1 hN1 => ?_)
  have hb1 : Blk w1 b1 74 [.int .i64 e.n, .int .i64 e.sp, .string e.nm] := hN1.blk
  have hbs := hb.no hN1.chg
  refine zl_nil ?_
  refine zk_seq ?_
  refine zc_seq ?_
  refine zc_draw [7] (fun w' => Blk w' s 72 [.pointer (some ⟨q.pd, 0, none⟩), .pointer (some ⟨q.pm, 0, none⟩), q.vo, .slice (some ⟨bi, 0, none⟩) I.length ci, .map (some q.r), .bool f] ∧ Blk w' b1 74 [.int .i64 e.n, .int .i64 e.sp, .string e.nm]) (.take 0 (.take 1 (.take 2 (.take 3 (.take 4 (.take 5 (.take 6 (.last 7)))))))) (by rfl) (by kernel_rfl) (by kernel_rfl) (fun w2 hC2 _ => ⟨?_, ?_⟩)
  · exact ⟨hbs.no hC2, hb1.no hC2⟩
  have h2 := h.no (hN1.chg.no hC2)
  have hI2 := h2.iso
  rw [hvi] at hI2
  obtain ⟨cells, hB, hfit, _, hnew⟩ := hI2.lay (o := e.n) (vs := [.bool false]) (by simp [boolC]; omega) (by simp [Value.oneCell'])
  iterate 2 (refine zs_take rfl (zt_pure rfl ?_))
  refine zs_rdL rfl want_none rfl (by decide) (fun _ hS => r_fa rfl) ?_
  refine zs_rdL rfl want_none rfl (by decide) (fun _ hS => r_loadB rfl hS.1 (by rfl)) ?_
  refine zs_rdL rfl want_none rfl (by decide) (fun _ hS => r_fa rfl) ?_
  refine zs_rdL rfl want_none rfl (by decide) (fun _ hS => r_loadB rfl hS.2 (by rfl)) ?_
  refine zs_rdL rfl want_none rfl (by decide) (fun _ hS => r_ia rfl rfl (by omega) (by omega)) ?_
  refine zs_storeL (o := e.n) rfl (by first | exact want_none | exact want_L rfl) (ev_ptr rfl (by omega)) rfl rfl hB (show e.n + 1 ≤ cells.length by simpa using hfit) (by simp [Value.cells, Value.oneCell']) (fun w3 hU3 => ?_)
  have hI3 := hnew w3 hU3
  rw [lay_one _ (by simp [boolC]; omega)] at hI3
  have hR3 : OneT w2 4 (fun k => k = bi) := fun k hk => ⟨_, hk ▸ hB⟩
  have h3 : IsS w3 s q E (I.set e.n false) m N f := h2.isoW hU3.chg hR3 (by
    rw [hvi, List.length_set]
    have : boolC (I.set e.n false) = (boolC I).set e.n (.bool false) := by simp [boolC, List.map_set]
    rw [this]; exact hI3)
  have hW3 : WrS w w3 s q q := ⟨((hN1.chg.no hC2).mono (S' := footS s q) (fun _ _ h => h.elim)).trans hU3.chg (fun k hk he => .inr (.inr (.inl (by rw [hvi, he]; rfl)))), fun _ h => .inl h⟩
  have hb3 := (hb1.no hC2).typ hU3.chg hR3 (by decide)
  have hbs3 := h3.blk
  refine zk_seq ?_
  refine zc_seq ?_
  refine zc_region ?_
  refine z_fa want_none (by decide) rfl ?_
  refine z_loadB want_none (by decide) rfl (by assumption) (by rfl) ?_
  by_cases hsp : e.sp = 1
  rotate_left
  · refine z_cmpB (r := false) want_none (by decide) rfl rfl rfl (iff_of_false Bool.false_ne_true (by omega)) ?_
    refine zl_nil ?_
    refine zk_seq ?_
    refine zc_false rfl ?_
    refine zc_skip ?_
    have e1 : cntM m e (-1) = m := by unfold cntM; rw [if_neg hsp]
    rw [← e1] at h3
    exact zk_ret0 (.inl rfl) rfl ⟨rfl, h3, hW3⟩
  have e1 : cntM m e (-1) = updM m e.nm (m e.nm - 1) := by unfold cntM; rw [if_pos hsp]; rfl
  have hmk := hm e.nm
  refine z_cmpB (r := true) want_none (by decide) rfl rfl rfl (iff_of_true rfl (by omega)) ?_
  refine zl_nil ?_
  refine zk_seq ?_
  refine zc_true rfl ?_
  refine zc_draw [8] (fun w' => Blk w' s 72 [.pointer (some ⟨q.pd, 0, none⟩), .pointer (some ⟨q.pm, 0, none⟩), q.vo, q.vi, .map (some q.r), .bool f] ∧ Blk w' b1 74 [.int .i64 e.n, .int .i64 e.sp, .string e.nm] ∧ MpI w' q.r m) (.take 0 (.take 1 (.take 2 (.take 3 (.take 4 (.take 5 (.take 6 (.take 7 (.last 8))))))))) (by rfl) (by kernel_rfl) (by kernel_rfl) (fun w5 hC5 _ => ⟨?_, ?_⟩)
  · exact ⟨hbs3.no hC5, hb3.no hC5, h3.mp.no hC5⟩
  have h5 := h3.no hC5
  iterate 2 (refine zs_take rfl (zt_pure rfl ?_))
  refine zs_rdL rfl want_none rfl (by decide) (fun _ hS => r_fa rfl) ?_
  refine zs_rdL rfl want_none rfl (by decide) (fun _ hS => r_loadB rfl hS.1 (by rfl)) ?_
  refine zs_rdL rfl want_none rfl (by decide) (fun _ hS => r_fa rfl) ?_
  refine zs_rdL rfl want_none rfl (by decide) (fun _ hS => r_loadB rfl hS.2.1 (by rfl)) ?_
  refine zs_rdL rfl (by first | exact want_none | exact want_L rfl) rfl (by decide) (fun _ hS => r_lookup u69 u9 z3 rfl rfl hS.2.2) ?_
  refine zs_rdL rfl want_none rfl (by decide) (fun _ hS => r_sub rfl rfl (by omega) (by omega)) ?_
  refine zs_mapUpdL rfl (by first | exact want_none | exact want_L rfl) u69 u9 rfl rfl rfl h5.mp (fun w6 g1 g2 g3 => ?_)
  skip
  rw [e1]
  exact zk_ret0 (.inl rfl) rfl ⟨rfl, h5.mapW g2 g1, hW3.trans ⟨((hC5.mono (S' := footS s q) (fun _ _ h => h.elim)).trans g2 (fun k hk he => .inr (.inr (.inr (.inl he))))), fun _ h => .inl h⟩⟩
end
end Go.Proofs.Yteeibieaapiomaa.D
/- SSite4 -/
/- A Site: an element comes. -/
namespace Go.Proofs.Yteeibieaapiomaa.D
open Go Go.Z Go.Proofs
set_option linter.unusedVariables false
section
variable {w w' w1 w2 : World} {s : Nat} {q q' q1 q2 : SP} {E E' : List Ent} {I I' : List Bool} {m m' : ByteArray → Int} {N N' : List ND} {f : Bool}
theorem IsS.growI (h : IsS w s q E I m N f) {v : Value} (hc : Chg w w1 (fun k => q.vi.ownBlock = some k)) (hO : Own w1 4 1 v I'.length (boolC I')) (hr : v.ownBlock = q.vi.ownBlock ∨ ∃ k, v.ownBlock = some k ∧ w.heap.size ≤ k)
    (hU : Upd w1 w2 s 72 [.pointer (some ⟨q.pd, 0, none⟩), .pointer (some ⟨q.pm, 0, none⟩), q.vo, v, .map (some q.r), .bool f]) : IsS w2 s { q with vi := v } E I' m N f ∧ WrS w w2 s q { q with vi := v } := by
  have hR : OneT w 4 (fun k => q.vi.ownBlock = some k) := fun k hk => h.iso.blk hk
  have hb1 := h.blk.typ hc hR (by decide)
  have hR1 : OneT w1 72 (fun k => k = s) := fun k hk => ⟨_, hk ▸ hb1⟩
  refine ⟨⟨hU.blk, (h.doc.typ hc hR (by decide) (by decide) (by decide) (by decide) (by decide) (by decide)).typ hU.chg hR1 (by decide) (by decide) (by decide) (by decide) (by decide) (by decide), (h.mrk.typ hc hR (by decide)).typ hU.chg hR1 (by decide), (h.own.typ hc hR (by decide)).typ hU.chg hR1 (by decide), hO.typ hU.chg hR1 (by decide), (h.mp.typ hc hR).typ hU.chg hR1⟩, ⟨(hc.mono (fun k _ hk => .inr (.inr (.inl hk)))).trans hU.chg (fun k _ hk => .inl hk), ?_⟩⟩
  rintro k (hk | hk | hk | hk | hk)
  · exact .inl (.inl hk)
  · exact .inl (.inr (.inl hk))
  · rcases hr with e | ⟨j, e, e2⟩
    · exact .inl (.inr (.inr (.inl (e ▸ hk))))
    · have hk : v.ownBlock = some k := hk
      rw [hk] at e; cases e; exact .inr e2
  · exact .inl (.inr (.inr (.inr (.inl hk))))
  · exact .inl (.inr (.inr (.inr (.inr hk))))
def comI (I : List Bool) (n : Nat) : List Bool := (I ++ List.replicate (n + 1 - I.length) false).set n true
set_option maxRecDepth 100000 in
set_option maxHeartbeats 8000000 in
theorem sComes_calls (h : IsS w s q E I m N f) (e : Ent) (he : e.n ≤ 1000000) (hI : I.length ≤ 1000000) (hm : SmallM m) : Calls Try.prog 51 [.pointer (some ⟨s, 0, none⟩), .agg #[.int .i64 e.n, .int .i64 e.sp, .string e.nm]].toArray w fun x w' => x = .returned (.tuple #[]) ∧ ∃ v, IsS w' s { q with vi := v } E (comI I e.n) (cntM m e 1) N f ∧ WrS w w' s q { q with vi := v } := by
  refine calls_zc (n := 39) (f := 51) (fn := Try.f51) Try.func51 rfl rfl (by simp) ?_
  refine zc_seq ?_
  refine zc_region ?_
  refine z_box (by first | exact want_none | exact want_L rfl) (by decide) rfl (fun w1 b1 hN1 => ?_)
  have hb1 : Blk w1 b1 74 [.int .i64 e.n, .int .i64 e.sp, .string e.nm] := hN1.blk
  have hge1 : w.heap.size ≤ b1 := hN1.ge (Chg.refl _ No)
  refine zl_nil ?_
  refine zk_seq ?_
  refine zc_seq ?_
  refine zc_block ?_
  refine zc_loopW (ι := Nat × Value) (fun k u => [(0, .pointer (some ⟨s, 0, none⟩)), (3, .pointer (some ⟨b1, 0, none⟩))])
    (fun k u => k.1 ≤ e.n + 1 - I.length ∧ IsS u s { q with vi := k.2 } E (I ++ List.replicate k.1 false) m N f ∧ WrS w u s q { q with vi := k.2 } ∧ Blk u b1 74 [.int .i64 e.n, .int .i64 e.sp, .string e.nm]) (fun k u => e.n + 1 - I.length - k.1) (0, q.vi)
    ⟨Nat.zero_le _, by simpa using h.no hN1.chg, WrS.of_no hN1.chg _ _, hb1⟩ ?_ ?_
  · exact ⟨rfl, rfl, trivial⟩
  rintro ⟨k, v⟩ u ⟨hk, hS, hW, hbu⟩
  dsimp only at hk hS hW hbu ⊢
  have hb := hS.blk
  obtain ⟨A, c, hv, hc⟩ := hS.iso.rd.form
  dsimp only at hv hb
  have hlen : (I ++ List.replicate k false).length = I.length + k := by simp
  rw [hlen] at hv hc
  subst hv
  iterate 2 (refine zc_seq ?_)
  refine zc_draw [] (fun w' => Blk w' s 72 [.pointer (some ⟨q.pd, 0, none⟩), .pointer (some ⟨q.pm, 0, none⟩), q.vo, .slice A (I.length + k) c, .map (some q.r), .bool f] ∧ Blk w' b1 74 [.int .i64 e.n, .int .i64 e.sp, .string e.nm]) (.take 0 (.take 1 (.take 2 (.take 3 (.take 4 (.take 5 (.take 6 (.take 7 (.fin))))))))) (by rfl) (by kernel_rfl) (by kernel_rfl) (fun u1 hC1 _ => ⟨?_, ?_⟩)
  · exact ⟨hb.no hC1, hbu.no hC1⟩
  have hS1 := hS.no hC1
  have hb1s := hb.no hC1
  have hbu1 := hbu.no hC1
  have hW1 := hW.no hC1
  by_cases hlt : I.length + k ≤ e.n
  · iterate 2 (refine zs_take rfl (zt_pure rfl ?_))
    refine zs_rdL rfl want_none rfl (by decide) (fun _ hS => r_fa rfl) ?_
    refine zs_rdL rfl want_none rfl (by decide) (fun _ hS => r_loadB rfl hS.1 (by rfl)) ?_
    refine zs_rdL rfl want_none rfl (by decide) (fun _ hS => r_len rfl) ?_
    refine zs_rdL rfl want_none rfl (by decide) (fun _ hS => r_fa rfl) ?_
    refine zs_rdL rfl want_none rfl (by decide) (fun _ hS => r_loadB rfl hS.2 (by rfl)) ?_
    refine zs_rdL rfl want_none rfl (by decide) (fun _ hS => r_cmpB (r := true) rfl rfl rfl (iff_of_true rfl (by omega))) ?_
    refine zs_fin ?_
    refine zk_seq ?_
    refine zc_true rfl ?_
    refine zc_skip ?_
    refine zk_seq ?_
    refine zc_block ?_
    refine zc_region ?_
    iterate 3 (refine zl_pureL rfl ?_)
    refine z_fa want_none (by decide) rfl ?_
    refine z_loadB want_none (by decide) rfl (by assumption) (by rfl) ?_
    refine z_bs1 (by first | exact want_none | exact want_L rfl) (by decide) rfl (by rfl) (by rfl) (by decide) (by decide) (fun u2 b2 hN2 => ?_)
    have hS2 := hS1.no hN2.chg
    have hI2 := hS2.iso
    dsimp only at hI2
    rw [hlen] at hI2
    have hr2 : RdS u2 4 1 (.slice (some ⟨b2, 0, none⟩) 1 1) 1 [.bool false] := RdS.new hN2 rfl (by simp [Value.oneCell'])
    refine z_appendO (by rfl) (by decide) (by first | exact want_none | exact want_L rfl) (by decide) rfl rfl hI2 hr2 (by omega) (by omega) (fun v3 u3 hO3 hX3 hr3 => ?_)
    have hR3 : OneT u2 4 (fun j => (Value.slice A (I.length + k) c).ownBlock = some j) := fun j hj => hI2.blk hj
    have hb3 := (hb1s.no hN2.chg).typ hX3 hR3 (by decide)
    obtain ⟨A3, c3, hv3, _⟩ := hO3.rd.form
    subst hv3
    refine zl_pureL rfl ?_
    refine z_fa want_none (by decide) rfl ?_
    refine z_store (by first | exact want_none | exact want_L rfl) rfl rfl rfl (by assumption) (by first | exact Nat.le_refl _ | simp [Value.cells]) (by simp [Value.cells, Value.oneCell']) (fun u4 hU4 => ?_)
    have e4 : I ++ List.replicate (k + 1) false = I ++ List.replicate k false ++ [false] := by rw [List.replicate_succ', List.append_assoc]
    obtain ⟨g1, g2⟩ := hS2.growI (I' := I ++ List.replicate (k + 1) false) (v := .slice A3 (I.length + k + 1) c3) hX3 (by
      have e5 : (I ++ List.replicate (k + 1) false).length = I.length + k + 1 := by simp; omega
      rw [e5, e4]
      have : boolC (I ++ List.replicate k false ++ [false]) = boolC (I ++ List.replicate k false) ++ [.bool false] := by simp [boolC]
      rw [this]; exact hO3) hr3 hU4
    have hb4 := ((hbu1.no hN2.chg).typ hX3 hR3 (by decide)).typ hU4.chg (fun j hj => ⟨_, hj ▸ hb3⟩) (by decide)
    refine zl_nil ?_
    refine zk_norm_block ?_
    refine zk_loopW (k + 1, .slice A3 (I.length + k + 1) c3) ⟨by dsimp only; omega, g1, (hW1.no hN2.chg).trans g2, hb4⟩ (by show e.n + 1 - I.length - (k + 1) < e.n + 1 - I.length - k; omega) ⟨rfl, rfl, trivial⟩
  · have hk' : k = e.n + 1 - I.length := by omega
    obtain ⟨bi, ci, hvi, hci⟩ := own_b hS1.iso (by omega)
    dsimp only at hvi
    rw [hlen] at hvi hci
    cases hvi
    iterate 2 (refine zs_take rfl (zt_pure rfl ?_))
    refine zs_rdL rfl want_none rfl (by decide) (fun _ hS => r_fa rfl) ?_
    refine zs_rdL rfl want_none rfl (by decide) (fun _ hS => r_loadB rfl hS.1 (by rfl)) ?_
    refine zs_rdL rfl want_none rfl (by decide) (fun _ hS => r_len rfl) ?_
    refine zs_rdL rfl want_none rfl (by decide) (fun _ hS => r_fa rfl) ?_
    refine zs_rdL rfl want_none rfl (by decide) (fun _ hS => r_loadB rfl hS.2 (by rfl)) ?_
    refine zs_rdL rfl want_none rfl (by decide) (fun _ hS => r_cmpB (r := false) rfl rfl rfl (iff_of_false Bool.false_ne_true (by omega))) ?_
    refine zs_fin ?_
    refine zk_seq ?_
    refine zc_false rfl ?_
    refine zc_exit ?_
    iterate 2 (refine zk_exit_then ?_)
    refine zk_exit_block ?_
    refine zk_seq ?_
    refine zc_seq ?_
    refine zc_draw [7] (fun w' => Blk w' s 72 [.pointer (some ⟨q.pd, 0, none⟩), .pointer (some ⟨q.pm, 0, none⟩), q.vo, .slice (some ⟨bi, 0, none⟩) (I.length + k) c, .map (some q.r), .bool f] ∧ Blk w' b1 74 [.int .i64 e.n, .int .i64 e.sp, .string e.nm]) (.take 0 (.take 1 (.take 2 (.take 3 (.take 4 (.take 5 (.take 6 (.last 7)))))))) (by rfl) (by kernel_rfl) (by kernel_rfl) (fun u2 hC2 _ => ⟨?_, ?_⟩)
    · exact ⟨hb1s.no hC2, hbu1.no hC2⟩
    have hS2 := hS1.no hC2
    have hI2 := hS2.iso
    dsimp only at hI2
    rw [hlen] at hI2
    obtain ⟨cells, hB, hfit, _, hnew⟩ := hI2.lay (o := e.n) (vs := [.bool true]) (by simp [boolC]; omega) (by simp [Value.oneCell'])
    iterate 2 (refine zs_take rfl (zt_pure rfl ?_))
    refine zs_rdL rfl want_none rfl (by decide) (fun _ hS => r_fa rfl) ?_
    refine zs_rdL rfl want_none rfl (by decide) (fun _ hS => r_loadB rfl hS.1 (by rfl)) ?_
    refine zs_rdL rfl want_none rfl (by decide) (fun _ hS => r_fa rfl) ?_
    refine zs_rdL rfl want_none rfl (by decide) (fun _ hS => r_loadB rfl hS.2 (by rfl)) ?_
    refine zs_rdL rfl want_none rfl (by decide) (fun _ hS => r_ia rfl rfl (by omega) (by omega)) ?_
    refine zs_storeL (o := e.n) rfl (by first | exact want_none | exact want_L rfl) (ev_ptr rfl (by omega)) rfl rfl hB (show e.n + 1 ≤ cells.length by simpa using hfit) (by simp [Value.cells, Value.oneCell']) (fun u3 hU3 => ?_)
    have hI3 := hnew u3 hU3
    rw [lay_one _ (by simp [boolC]; omega)] at hI3
    have hR3 : OneT u2 4 (fun j => j = bi) := fun j hj => ⟨_, hj ▸ hB⟩
    have hS3 : IsS u3 s { q with vi := .slice (some ⟨bi, 0, none⟩) (I.length + k) c } E (comI I e.n) m N f := hS2.isoW hU3.chg hR3 (by
      unfold comI
      rw [← hk', List.length_set, hlen]
      have : boolC ((I ++ List.replicate k false).set e.n true) = (boolC (I ++ List.replicate k false)).set e.n (.bool true) := by simp [boolC, List.map_set]
      rw [this]; exact hI3)
    have hW3 : WrS w u3 s q { q with vi := .slice (some ⟨bi, 0, none⟩) (I.length + k) c } := (hW1.no hC2).trans ⟨hU3.chg.mono (fun j _ hj => .inr (.inr (.inl (by rw [hj]; rfl)))), fun _ h => .inl h⟩
    have hb3 := (hbu1.no hC2).typ hU3.chg hR3 (by decide)
    have hbs3 := hS3.blk
    dsimp only at hbs3
    refine zk_seq ?_
    refine zc_seq ?_
    refine zc_region ?_
    refine z_fa want_none (by decide) rfl ?_
    refine z_loadB want_none (by decide) rfl (by assumption) (by rfl) ?_
    by_cases hsp : e.sp = 1
    rotate_left
    · refine z_cmpB (r := false) want_none (by decide) rfl rfl rfl (iff_of_false Bool.false_ne_true (by omega)) ?_
      refine zl_nil ?_
      refine zk_seq ?_
      refine zc_false rfl ?_
      refine zc_skip ?_
      have e1 : cntM m e 1 = m := by unfold cntM; rw [if_neg hsp]
      rw [← e1] at hS3
      exact zk_ret0 (.inl rfl) rfl ⟨rfl, _, hS3, hW3⟩
    have e1 : cntM m e 1 = updM m e.nm (m e.nm + 1) := by unfold cntM; rw [if_pos hsp]
    have hmk := hm e.nm
    refine z_cmpB (r := true) want_none (by decide) rfl rfl rfl (iff_of_true rfl (by omega)) ?_
    refine zl_nil ?_
    refine zk_seq ?_
    refine zc_true rfl ?_
    refine zc_draw [8] (fun w' => Blk w' s 72 [.pointer (some ⟨q.pd, 0, none⟩), .pointer (some ⟨q.pm, 0, none⟩), q.vo, .slice (some ⟨bi, 0, none⟩) (I.length + k) c, .map (some q.r), .bool f] ∧ Blk w' b1 74 [.int .i64 e.n, .int .i64 e.sp, .string e.nm] ∧ MpI w' q.r m) (.take 0 (.take 1 (.take 2 (.take 3 (.take 4 (.take 5 (.take 6 (.take 7 (.last 8))))))))) (by rfl) (by kernel_rfl) (by kernel_rfl) (fun u5 hC5 _ => ⟨?_, ?_⟩)
    · exact ⟨hbs3.no hC5, hb3.no hC5, hS3.mp.no hC5⟩
    have h5 := hS3.no hC5
    iterate 2 (refine zs_take rfl (zt_pure rfl ?_))
    refine zs_rdL rfl want_none rfl (by decide) (fun _ hS => r_fa rfl) ?_
    refine zs_rdL rfl want_none rfl (by decide) (fun _ hS => r_loadB rfl hS.1 (by rfl)) ?_
    refine zs_rdL rfl want_none rfl (by decide) (fun _ hS => r_fa rfl) ?_
    refine zs_rdL rfl want_none rfl (by decide) (fun _ hS => r_loadB rfl hS.2.1 (by rfl)) ?_
    refine zs_rdL rfl (by first | exact want_none | exact want_L rfl) rfl (by decide) (fun _ hS => r_lookup u69 u9 z3 rfl rfl hS.2.2) ?_
    refine zs_rdL rfl want_none rfl (by decide) (fun _ hS => r_add rfl rfl (by omega) (by omega)) ?_
    refine zs_mapUpdL rfl (by first | exact want_none | exact want_L rfl) u69 u9 rfl rfl rfl h5.mp (fun w6 g1 g2 g3 => ?_)
    skip
    rw [e1]
    exact zk_ret0 (.inl rfl) rfl ⟨rfl, _, h5.mapW g2 g1, hW3.trans ⟨((hC5.mono (S' := footS s _) (fun _ _ h => h.elim)).trans g2 (fun k hk he => .inr (.inr (.inr (.inl he))))), fun _ h => .inl h⟩⟩
end
end Go.Proofs.Yteeibieaapiomaa.D
/- SSite5 -/
/- A Site: Push, Pop. -/
namespace Go.Proofs.Yteeibieaapiomaa.D
open Go Go.Z Go.Proofs
set_option linter.unusedVariables false
section
variable {w w' w1 w2 : World} {s : Nat} {q q' q1 q2 : SP} {E E' : List Ent} {I I' : List Bool} {m m' : ByteArray → Int} {N N' : List ND} {f : Bool}
theorem IsS.growO (h : IsS w s q E I m N f) {v : Value} (hc : Chg w w1 (fun k => q.vo.ownBlock = some k)) (hO : Own w1 74 3 v E'.length (encE E')) (hr : v.ownBlock = q.vo.ownBlock ∨ ∃ k, v.ownBlock = some k ∧ w.heap.size ≤ k)
    (hU : Upd w1 w2 s 72 [.pointer (some ⟨q.pd, 0, none⟩), .pointer (some ⟨q.pm, 0, none⟩), v, q.vi, .map (some q.r), .bool f]) : IsS w2 s { q with vo := v } E' I m N f ∧ WrS w w2 s q { q with vo := v } := by
  have hR : OneT w 74 (fun k => q.vo.ownBlock = some k) := fun k hk => h.own.blk hk
  have hb1 := h.blk.typ hc hR (by decide)
  have hR1 : OneT w1 72 (fun k => k = s) := fun k hk => ⟨_, hk ▸ hb1⟩
  refine ⟨⟨hU.blk, (h.doc.typ hc hR (by decide) (by decide) (by decide) (by decide) (by decide) (by decide)).typ hU.chg hR1 (by decide) (by decide) (by decide) (by decide) (by decide) (by decide), (h.mrk.typ hc hR (by decide)).typ hU.chg hR1 (by decide), hO.typ hU.chg hR1 (by decide), (h.iso.typ hc hR (by decide)).typ hU.chg hR1 (by decide), (h.mp.typ hc hR).typ hU.chg hR1⟩, ⟨(hc.mono (fun k _ hk => .inr (.inl hk))).trans hU.chg (fun k _ hk => .inl hk), ?_⟩⟩
  rintro k (hk | hk | hk | hk | hk)
  · exact .inl (.inl hk)
  · rcases hr with e | ⟨j, e, e2⟩
    · exact .inl (.inr (.inl (e ▸ hk)))
    · have hk : v.ownBlock = some k := hk
      rw [hk] at e; cases e; exact .inr e2
  · exact .inl (.inr (.inr (.inl hk)))
  · exact .inl (.inr (.inr (.inr (.inl hk))))
  · exact .inl (.inr (.inr (.inr (.inr hk))))
theorem sInsEnd_calls {vo v : Value} {n : Nat} {cs ec : List Value} (h : Own w 74 3 vo n cs) (hr : RdS w 74 3 v 1 ec) (hn : n ≤ 1000000) : Calls Try.prog 52 [vo, .int .i64 n, v].toArray w fun x w' => ∃ v', x = .returned v' ∧ Own w' 74 3 v' (n + 1) (cs ++ ec) ∧ Chg w w' (fun k => vo.ownBlock = some k) ∧ (v'.ownBlock = vo.ownBlock ∨ ∃ k, v'.ownBlock = some k ∧ w.heap.size ≤ k) := by
  obtain ⟨A, c, hv, hc⟩ := h.rd.form
  obtain ⟨A1, c1, hv1, _⟩ := hr.form
  subst hv; subst hv1
  refine calls_zc (n := 95) (f := 52) (fn := Try.f52) Try.func52 rfl rfl (by simp) ?_
  refine zc_seq ?_
  refine zc_region ?_
  refine zl_pureL rfl ?_
  refine zl_nil ?_
  refine zk_seq ?_
  refine zc_seq ?_
  refine zc_region ?_
  iterate 2 (refine zl_pureL rfl ?_)
  refine zl_run (by first | exact want_none | exact want_L rfl) rfl (by decide) (r_cutFrom (k := n) rfl rfl (by omega) (by omega)) ?_
  refine zl_nil ?_
  refine zk_seq ?_
  refine zc_seq ?_
  refine zc_region ?_
  refine zl_pureL rfl ?_
  refine z_len want_none (by decide) rfl ?_
  refine zl_pureL rfl ?_
  refine zl_nil ?_
  refine zk_seq ?_
  iterate 2 (refine zc_seq ?_)
  refine zc_region ?_
  refine zl_pureL rfl ?_
  refine z_cmpB (r := false) want_none (by decide) rfl rfl rfl (iff_of_false Bool.false_ne_true (by omega)) ?_
  refine zl_nil ?_
  refine zk_seq ?_
  refine zc_false rfl ?_
  refine zc_skip ?_
  refine zk_seq ?_
  refine zc_seq ?_
  refine zc_region ?_
  refine zl_pureL rfl ?_
  refine z_len want_none (by decide) rfl ?_
  refine zl_pureL rfl ?_
  refine zl_nil ?_
  refine zk_seq ?_
  iterate 2 (refine zc_seq ?_)
  refine zc_region ?_
  iterate 2 (refine zl_pureL rfl ?_)
  refine z_cmpB (r := true) want_none (by decide) rfl rfl rfl (iff_of_true rfl (by omega)) ?_
  refine zl_nil ?_
  refine zk_seq ?_
  refine zc_true rfl ?_
  refine zc_seq ?_
  refine zc_region ?_
  iterate 2 (refine zl_pureL rfl ?_)
  refine z_appendO (by rfl) (by decide) (by first | exact want_none | exact want_L rfl) (by decide) rfl rfl h hr (by omega) (by omega) (fun v3 u3 hO3 hX3 hr3 => ?_)
  obtain ⟨A3, c3, hv3, _⟩ := hO3.rd.form
  subst hv3
  refine zl_pureL rfl ?_
  refine zl_nil ?_
  refine zk_seq ?_
  refine zc_ret ?_
  refine zk_ret_then ?_
  exact zk_ret1 (.inr rfl) rfl rfl ⟨_, rfl, hO3, hX3, hr3⟩
def entN (N : List ND) (n : Nat) : Ent := ⟨n, (N.getD n n0).space, (N.getD n n0).name⟩
set_option maxRecDepth 100000 in
set_option maxHeartbeats 8000000 in
/-- an element is put at the end, or is none, or open -/
theorem sPutEnd_calls (h : IsS w s q E I m N f) (hB : BigT N) (n : Nat) (hn : n < N.length) (hN : N.length ≤ 1000000) (hE0 : 0 < E.length) (hE : E.length ≤ 900000) (hI : I.length ≤ 1000000) (hm : SmallM m) :
    Calls Try.prog 16 [.pointer (some ⟨s, 0, none⟩), .int .i64 E.length, .int .i64 n].toArray w fun x w' => x = .returned (.bool (freshB N I n)) ∧ ∃ vo vi, WrS w w' s q { q with vo := vo, vi := vi } ∧ (if freshB N I n = true then IsS w' s { q with vo := vo, vi := vi } (E ++ [entN N n]) (comI I n) (cntM m (entN N n) 1) N f else IsS w' s { q with vo := vo, vi := vi } E I m N f) := by
  have hb := h.blk
  obtain ⟨A, c, hv, hc⟩ := h.own.rd.form
  have hnd : nodeOf N (n : Nat) = N.getD n n0 := if_pos ⟨by omega, by omega⟩
  refine calls_zc (n := 44) (f := 16) (fn := Try.f16) Try.func16 rfl rfl (by simp) ?_
  refine zc_seq ?_
  refine zc_region ?_
  refine zl_pureL rfl ?_
  refine zl_nil ?_
  refine zk_seq ?_
  refine zc_seq ?_
  refine zc_region ?_
  iterate 2 (refine zl_pureL rfl ?_)
  refine zl_call (by first | exact want_none | exact want_L rfl) rfl (by decide) rfl (sFresh_calls h hB (n : Nat)) ?_
  rintro _ w1 ⟨rfl, hC1⟩
  refine ⟨_, rfl, ?_⟩
  rw [hnd]
  iterate 3 (refine zl_pureL rfl ?_)
  refine z_alloc (by first | exact want_none | exact want_L rfl) (by decide) (fun w2 b2 hN2 => ?_)
  have hb2 : Blk w2 b2 74 [.int .i64 0, .int .i64 0, .string ⟨#[]⟩] := hN2.blk
  refine z_store (by first | exact want_none | exact want_L rfl) rfl rfl rfl (by assumption) (by first | exact Nat.le_refl _ | simp [Value.cells]) (by simp [Value.cells, Value.oneCell']) (fun w3 hU3 => ?_)
  have hb3 : Blk w3 b2 74 [.int .i64 n, .int .i64 (N.getD n n0).space, .string (N.getD n n0).name] := hU3.blk
  have hC3 : Chg w w3 No := (hC1.no hN2.chg).upd hU3 (by have := hN2.at_; have := hC1.size; omega)
  have h3 := h.no hC3
  have hbs3 := h3.blk
  rw [hv] at hbs3
  cases hfr : freshB N I (n : Nat)
  · refine zl_pureL rfl ?_
    refine zl_nil ?_
    refine zk_seq ?_
    iterate 2 (refine zc_seq ?_)
    refine zc_region ?_
    iterate 4 (refine zl_pureL rfl ?_)
    refine zl_skip rfl ?_
    iterate 5 (refine zl_pureL rfl ?_)
    iterate 4 (refine zl_skip rfl ?_)
    refine zl_pureL rfl ?_
    refine zl_nil ?_
    refine zk_seq ?_
    refine zc_true rfl ?_
    refine zc_seq ?_
    refine zc_region ?_
    refine zl_pureL rfl ?_
    refine zl_nil ?_
    refine zk_seq ?_
    refine zc_ret ?_
    refine zk_ret_then ?_
    refine zk_ret1 (.inr rfl) rfl rfl ⟨rfl, q.vo, q.vi, WrS.of_no hC3 _ _, ?_⟩
    rw [if_neg Bool.false_ne_true]
    exact h3
  · refine zl_pureL rfl ?_
    refine zl_nil ?_
    refine zk_seq ?_
    iterate 2 (refine zc_seq ?_)
    refine zc_region ?_
    iterate 4 (refine zl_pureL rfl ?_)
    refine z_cmpB (r := false) (want_L rfl) (by decide) rfl rfl rfl (iff_of_false Bool.false_ne_true (by omega)) ?_
    iterate 5 (refine zl_pureL rfl ?_)
    refine z_fa (want_L rfl) (by decide) rfl ?_
    refine z_loadB (want_L rfl) (by decide) rfl (by assumption) (by rfl) ?_
    refine z_len (want_L rfl) (by decide) rfl ?_
    refine z_cmpB (r := false) (want_L rfl) (by decide) rfl rfl rfl (iff_of_false Bool.false_ne_true (by omega)) ?_
    refine zl_pureL rfl ?_
    refine zl_nil ?_
    refine zk_seq ?_
    refine zc_false rfl ?_
    refine zc_skip ?_
    refine zk_seq ?_
    refine zc_seq ?_
    refine zc_region ?_
    refine zl_pureL rfl ?_
    refine z_loadAB want_none (by decide) rfl (by assumption) (by rfl) ?_
    refine zl_call (by first | exact want_none | exact want_L rfl) rfl (by decide) rfl (sComes_calls h3 (entN N n) (show n ≤ 1000000 by omega) hI hm) ?_
    rintro _ w4 ⟨rfl, vi, h4, hW4⟩
    refine ⟨_, rfl, ?_⟩
    have hs4 := hW4.chg.size
    have hb4 : Blk w4 b2 74 [.int .i64 n, .int .i64 (N.getD n n0).space, .string (N.getD n n0).name] := hb3.chg hW4.chg (fun hf => by
      have := hN2.at_
      have := hC1.size
      have hlt := h.lt b2 (by simpa [footS] using hf)
      omega)
    have hbs4 := h4.blk
    dsimp only at hbs4
    rw [hv] at hbs4
    refine zl_nil ?_
    refine zk_seq ?_
    refine zc_seq ?_
    refine zc_draw [11] (fun w' => Blk w' s 72 [.pointer (some ⟨q.pd, 0, none⟩), .pointer (some ⟨q.pm, 0, none⟩), .slice A E.length c, vi, .map (some q.r), .bool f] ∧ Blk w' b2 74 [.int .i64 n, .int .i64 (N.getD n n0).space, .string (N.getD n n0).name]) (.take 0 (.take 1 (.take 2 (.take 3 (.take 4 (.take 5 (.take 6 (.all1 7 (.all1 8 (.plain 9 (.take 10 (.last 11)))))))))))) (by rfl) (by kernel_rfl) (by kernel_rfl) (fun w5 hC5 _ => ⟨?_, ?_⟩)
    · exact ⟨hbs4.no hC5, hb4.no hC5⟩
    iterate 3 (refine zs_take rfl (zt_pure rfl ?_))
    refine zs_rdL rfl want_none rfl (by decide) (fun _ hS => r_fa rfl) ?_
    refine zs_rdL rfl want_none rfl (by decide) (fun _ hS => r_loadB rfl hS.1 (by rfl)) ?_
    refine zs_take rfl (zt_pure rfl ?_)
    refine zs_rdL rfl want_none rfl (by decide) (fun _ hS => r_loadAB rfl hS.2 (by rfl)) ?_
    refine zs_bs1 rfl (by first | exact want_none | exact want_L rfl) (by decide) rfl (by rfl) (by rfl) (by decide) (by decide) (fun w6 b6 hN6 => ?_)
    have h6 := (h4.no hC5).no hN6.chg
    have hb6s := (hbs4.no hC5).no hN6.chg
    have hb6 := (hb4.no hC5).no hN6.chg
    refine ⟨⟨hb6s, hb6⟩, ?_⟩
    have hr6 : RdS w6 74 3 (.slice (some ⟨b6, 0, none⟩) 1 1) 1 (encE [entN N n]) := RdS.new hN6 rfl (encE_one _)
    have hO6 := h6.own
    dsimp only at hO6
    skip
    refine zs_call rfl (by first | exact want_none | exact want_L rfl) rfl (by decide) rfl (sInsEnd_calls (by rw [hv] at hO6; exact hO6) hr6 (by omega)) ?_
    rintro _ w7 ⟨v7, rfl, hO7, hX7, hr7⟩
    have hR7 : OneT w6 74 (fun k => (Value.slice A E.length c).ownBlock = some k) := fun k hk => by rw [← hv] at hk; exact hO6.blk hk
    have hb7s := hb6s.typ hX7 hR7 (by decide)
    have hb7 := hb6.chg hX7 (fun he => by
      rw [← hv] at he
      have := h.own.lt he
      have := hN2.at_
      have := hC1.size
      omega)
    refine ⟨_, rfl, ⟨hb7s, hb7⟩, ?_⟩
    obtain ⟨A7, c7, hv7, _⟩ := hO7.rd.form
    subst hv7
    refine zs_plainL rfl rfl ?_
    refine zs_rdL rfl want_none rfl (by decide) (fun _ hS => r_fa rfl) ?_
    refine zs_storeL rfl (by first | exact want_none | exact want_L rfl) rfl rfl rfl (by assumption) (by first | exact Nat.le_refl _ | simp [Value.cells]) (by simp [Value.cells, Value.oneCell']) (fun w8 hU8 => ?_)
    obtain ⟨g1, g2⟩ := h6.growO (E' := E ++ [entN N n]) (v := .slice A7 (E.length + 1) c7) (by dsimp only; rw [hv]; exact hX7) (by rw [List.length_append, encE_app]; exact hO7) (by dsimp only; rw [hv]; exact hr7) hU8
    refine zk_seq ?_
    refine zc_seq ?_
    refine zc_region ?_
    refine zl_pureL rfl ?_
    refine zl_nil ?_
    refine zk_seq ?_
    refine zc_ret ?_
    refine zk_ret1 (.inr rfl) rfl rfl ⟨rfl, _, vi, ((WrS.of_no hC3 _ _).trans hW4).trans (((WrS.of_no hC5 _ _).no hN6.chg).trans g2), ?_⟩
    rw [if_pos rfl]
    exact g1
set_option maxHeartbeats 8000000 in
theorem sPush_calls (h : IsS w s q E I m N f) (hB : BigT N) (n : Nat) (hn : n < N.length) (hN : N.length ≤ 1000000) (hE0 : 0 < E.length) (hE : E.length ≤ 900000) (hI : I.length ≤ 1000000) (hm : SmallM m) :
    Calls Try.prog 19 [.pointer (some ⟨s, 0, none⟩), .int .i64 n].toArray w fun x w' => x = .returned (.bool (freshB N I n)) ∧ ∃ vo vi, WrS w w' s q { q with vo := vo, vi := vi } ∧ (if freshB N I n = true then IsS w' s { q with vo := vo, vi := vi } (E ++ [entN N n]) (comI I n) (cntM m (entN N n) 1) N f else IsS w' s { q with vo := vo, vi := vi } E I m N f) := by
  have hb := h.blk
  obtain ⟨A, c, hv, hc⟩ := h.own.rd.form
  rw [hv] at hb
  refine calls_zc (n := 13) (f := 19) (fn := Try.f19) Try.func19 rfl rfl (by simp) ?_
  refine zc_seq ?_
  refine zc_region ?_
  refine zl_pureL rfl ?_
  refine zl_nil ?_
  refine zk_seq ?_
  refine zc_seq ?_
  refine zc_region ?_
  iterate 3 (refine zl_pureL rfl ?_)
  refine z_fa want_none (by decide) rfl ?_
  refine z_loadB want_none (by decide) rfl (by assumption) (by rfl) ?_
  refine z_len want_none (by decide) rfl ?_
  refine zl_pureL rfl ?_
  refine zl_call (by first | exact want_none | exact want_L rfl) rfl (by decide) rfl (sPutEnd_calls h hB n hn hN hE0 hE hI hm) ?_
  rintro _ w1 ⟨rfl, h1⟩
  refine ⟨_, rfl, ?_⟩
  refine zl_pureL rfl ?_
  refine zl_nil ?_
  refine zk_seq ?_
  refine zc_ret ?_
  exact zk_ret1 (.inr rfl) rfl rfl ⟨rfl, h1⟩
end
end Go.Proofs.Yteeibieaapiomaa.D
