import Derived.Test.YteeibieaapiomaaSDel
/- A Site: place, Put, Drop, Swap. -/
namespace Go.Proofs.Yteeibieaapiomaa.D
open Go Go.Z Go.Proofs
set_option linter.unusedVariables false
def insE (E : List Ent) (i : Nat) (e : Ent) : List Ent := E.take i ++ [e] ++ E.drop i
def delE (E : List Ent) (i : Nat) : List Ent := E.take i ++ E.drop (i + 1)
theorem encE_ins (E : List Ent) (i : Nat) (e : Ent) : encE (insE E i e) = insC (encE E) i (encE [e]) := by
  unfold insE insC
  rw [encE_app, encE_app, encE_take, encE_drop]
theorem encE_del (E : List Ent) (i : Nat) : encE (delE E i) = delC (encE E) i := by
  unfold delE delC
  rw [encE_app, encE_take, encE_drop]
theorem insE_len (E : List Ent) (i : Nat) (e : Ent) (h : i ≤ E.length) : (insE E i e).length = E.length + 1 := by
  unfold insE
  simp only [List.length_append, List.length_take, List.length_drop, List.length_singleton]; omega
theorem delE_len (E : List Ent) (i : Nat) (h : i < E.length) : (delE E i).length = E.length - 1 := by
  unfold delE
  simp only [List.length_append, List.length_take, List.length_drop]; omega
theorem sInsG_calls {w wp : World} {vo : Value} {n i vb : Nat} {cs ec : List Value} (h : Own w 74 3 vo n cs) (hvb : Blk w vb 74 ec) (hec : ec.length = 3) (h1 : ∀ u ∈ ec, u.oneCell' = true) (hne : vo.ownBlock ≠ some vb) (hn : n ≤ 1000000) (hi : i ≤ n) :
    Calls Try.prog 52 [vo, .int .i64 i, .slice (some ⟨vb, 0, none⟩) 1 1].toArray w fun x w' => ∃ v', x = .returned v' ∧ Own w' 74 3 v' (n + 1) (insC cs i ec) ∧ Chg w w' (fun k => vo.ownBlock = some k) ∧ (v'.ownBlock = vo.ownBlock ∨ ∃ k, v'.ownBlock = some k ∧ w.heap.size ≤ k) := by
  rcases Nat.lt_or_ge i n with hlt | hge
  · exact sIns_calls h hvb hec h1 hne hn hlt
  · obtain rfl : i = n := by omega
    have hr : RdS w 74 3 (.slice (some ⟨vb, 0, none⟩) 1 1) 1 ec := RdS.blk hvb (by omega) (Nat.le_refl _) h1 0 (fun j u hj => by simpa using hj)
    refine (sInsEnd_calls h hr hn).mono ?_
    rintro x w' ⟨v', rfl, h2, h3, h4⟩
    refine ⟨v', rfl, ?_, h3, h4⟩
    have : insC cs i ec = cs ++ ec := by
      unfold insC
      have := h.len
      rw [List.take_of_length_le (by omega), List.drop_of_length_le (by omega), List.append_nil]
    rw [this]; exact h2
section
variable {w w' w1 w2 : World} {s : Nat} {q : SP} {E : List Ent} {I : List Bool} {m : ByteArray → Int} {N : List ND} {f : Bool}
/-- where an element stands -/
def PlcR (E : List Ent) (n r : Int) : Prop := r = -1 ∨ ∃ k : Nat, r = k ∧ 1 ≤ k ∧ k < E.length ∧ (E.getD k en0).n = n
set_option maxHeartbeats 8000000 in
theorem sPlace_calls (h : IsS w s q E I m N f) (hE0 : 0 < E.length) (hE : E.length ≤ 1000000) (n : Int) : Calls Try.prog 53 [.pointer (some ⟨s, 0, none⟩), .int .i64 n].toArray w fun x w' => ∃ r, x = .returned (.int .i64 r) ∧ PlcR E n r ∧ Chg w w' No := by
  have hb := h.blk
  obtain ⟨A, c, hv, hc⟩ := h.own.rd.form
  rw [hv] at hb
  refine calls_zc (n := 35) (f := 53) (fn := Try.f53) Try.func53 rfl rfl (by simp) ?_
  by_cases h0 : n = 0
  · refine zc_seq ?_
    refine zc_region ?_
    refine zl_pureL rfl ?_
    refine zl_nil ?_
    refine zk_seq ?_
    iterate 2 (refine zc_seq ?_)
    refine zc_region ?_
    refine zl_pureL rfl ?_
    refine z_cmpB (r := true) want_none (by decide) rfl rfl rfl (iff_of_true rfl (by omega)) ?_
    iterate 3 (refine zl_pureL rfl ?_)
    refine zl_skip rfl ?_
    iterate 2 (refine zl_pureL rfl ?_)
    refine zl_nil ?_
    refine zk_seq ?_
    refine zc_true rfl ?_
    refine zc_seq ?_
    refine zc_region ?_
    refine zl_pureL rfl ?_
    refine zl_nil ?_
    refine zk_seq ?_
    refine zc_ret ?_
    refine zk_ret_then ?_
    exact zk_ret1 (.inr rfl) rfl rfl ⟨_, rfl, .inl rfl, Chg.refl _ _⟩
  refine zc_seq ?_
  refine zc_region ?_
  refine zl_pureL rfl ?_
  refine zl_nil ?_
  refine zk_seq ?_
  iterate 2 (refine zc_seq ?_)
  refine zc_region ?_
  refine zl_pureL rfl ?_
  refine z_cmpB (r := false) want_none (by decide) rfl rfl rfl (iff_of_false Bool.false_ne_true (by omega)) ?_
  iterate 3 (refine zl_pureL rfl ?_)
  refine zl_call (by first | exact want_none | exact want_L rfl) rfl (by decide) rfl (sOpened_calls h n) ?_
  rintro _ u ⟨rfl, hu⟩
  obtain rfl := hu.symm
  refine ⟨_, rfl, ?_⟩
  by_cases ho : opn I n
  rotate_left
  · rw [decide_eq_false ho]
    iterate 2 (refine zl_pureL rfl ?_)
    refine zl_nil ?_
    refine zk_seq ?_
    refine zc_true rfl ?_
    refine zc_seq ?_
    refine zc_region ?_
    refine zl_pureL rfl ?_
    refine zl_nil ?_
    refine zk_seq ?_
    refine zc_ret ?_
    refine zk_ret_then ?_
    exact zk_ret1 (.inr rfl) rfl rfl ⟨_, rfl, .inl rfl, Chg.refl _ _⟩
  rw [decide_eq_true ho]
  iterate 2 (refine zl_pureL rfl ?_)
  refine zl_nil ?_
  refine zk_seq ?_
  refine zc_false rfl ?_
  refine zc_skip ?_
  refine zk_seq ?_
  iterate 2 (refine zc_seq ?_)
  refine zc_region ?_
  iterate 2 (refine zl_pureL rfl ?_)
  refine z_fa want_none (by decide) rfl ?_
  refine z_loadB want_none (by decide) rfl (by assumption) (by rfl) ?_
  refine z_len want_none (by decide) rfl ?_
  refine z_sub want_none (by decide) rfl rfl (by omega) (by omega) ?_
  refine zl_pureL rfl ?_
  refine zl_nil ?_
  refine zk_seq ?_
  refine zc_block ?_
  refine zc_loopW (ι := Nat) (fun k u => [(0, .pointer (some ⟨s, 0, none⟩)), (1, .int .i64 n), (5, .int .i64 (k : Nat))]) (fun k u => k ≤ E.length - 1 ∧ u = w) (fun k u => k) (E.length - 1) ⟨Nat.le_refl _, rfl⟩ ?_ ?_
  · exact ⟨rfl, rfl, get_int rfl (by omega), trivial⟩
  rintro k u ⟨hk, rfl⟩
  cases k with
  | zero =>
    iterate 2 (refine zc_seq ?_)
    refine zc_region ?_
    refine zl_pureL rfl ?_
    refine z_cmpB (r := false) want_none (by decide) rfl rfl rfl (iff_of_false Bool.false_ne_true (by omega)) ?_
    refine zl_nil ?_
    refine zk_seq ?_
    refine zc_false rfl ?_
    refine zc_exit ?_
    iterate 2 (refine zk_exit_then ?_)
    refine zk_exit_block ?_
    refine zk_seq ?_
    refine zc_seq ?_
    refine zc_region ?_
    refine zl_pureL rfl ?_
    refine zl_nil ?_
    refine zk_seq ?_
    refine zc_ret ?_
    exact zk_ret1 (.inr rfl) rfl rfl ⟨_, rfl, .inl rfl, Chg.refl _ _⟩
  | succ k =>
    obtain ⟨b, o, c', hv', h0', _, _⟩ := h.at_ (k + 1) (by omega)
    rw [hv] at hv'
    cases hv'
    iterate 2 (refine zc_seq ?_)
    refine zc_region ?_
    refine zl_pureL rfl ?_
    refine z_cmpB (r := true) want_none (by decide) rfl rfl rfl (iff_of_true rfl (by omega)) ?_
    refine zl_nil ?_
    refine zk_seq ?_
    refine zc_true rfl ?_
    refine zc_skip ?_
    refine zk_seq ?_
    refine zc_seq ?_
    refine zc_block ?_
    refine zc_seq ?_
    refine zc_region ?_
    iterate 2 (refine zl_pureL rfl ?_)
    refine z_fa want_none (by decide) rfl ?_
    refine z_loadB want_none (by decide) rfl (by assumption) (by rfl) ?_
    refine zl_pureL rfl ?_
    refine z_ia want_none (by decide) rfl rfl (by omega) (by omega) ?_
    refine z_fa want_none (by decide) rfl ?_
    refine z_load1 want_none (by decide) rfl (by assumption) ?_
    refine zl_pureL rfl ?_
    by_cases hq : ((E.getD (k + 1) en0).n : Int) = n
    · refine z_cmpB (r := true) want_none (by decide) rfl rfl rfl (iff_of_true rfl (by omega)) ?_
      refine zl_nil ?_
      refine zk_seq ?_
      refine zc_true rfl ?_
      refine zc_seq ?_
      refine zc_region ?_
      iterate 2 (refine zl_pureL rfl ?_)
      refine zl_nil ?_
      refine zk_seq ?_
      refine zc_ret ?_
      refine zk_ret_block ?_
      iterate 2 (refine zk_ret_then ?_)
      refine zk_ret_block ?_
      refine zk_ret_then ?_
      exact zk_ret1 (.inr rfl) rfl rfl ⟨_, rfl, .inr ⟨k + 1, rfl, by omega, by omega, hq⟩, Chg.refl _ _⟩
    · refine z_cmpB (r := false) want_none (by decide) rfl rfl rfl (iff_of_false Bool.false_ne_true (by omega)) ?_
      refine zl_nil ?_
      refine zk_seq ?_
      refine zc_false rfl ?_
      refine zc_skip ?_
      refine zk_norm_block ?_
      refine zk_seq ?_
      refine zc_region ?_
      refine zl_pureL rfl ?_
      refine z_sub want_none (by decide) rfl rfl (by omega) (by omega) ?_
      refine zl_pureL rfl ?_
      refine zl_nil ?_
      refine zk_loopW k ⟨by omega, rfl⟩ (by omega) ⟨rfl, rfl, get_int rfl (by omega), trivial⟩
set_option maxRecDepth 100000 in
set_option maxHeartbeats 16000000 in
theorem sPut_calls (h : IsS w s q E I m N f) (hB : BigT N) (i n : Int) (hN : N.length ≤ 1000000) (hE0 : 0 < E.length) (hE : E.length ≤ 900000) (hI : I.length ≤ 1000000) (hm : SmallM m) :
    Calls Try.prog 16 [.pointer (some ⟨s, 0, none⟩), .int .i64 i, .int .i64 n].toArray w fun x w' => ∃ p vo vi, x = .returned (.bool p) ∧ WrS w w' s q { q with vo := vo, vi := vi } ∧
      ((p = true ∧ freshB N I n = true ∧ (1 ≤ i ∧ i ≤ E.length) ∧ IsS w' s { q with vo := vo, vi := vi } (insE E i.toNat (entN N n.toNat)) (comI I n.toNat) (cntM m (entN N n.toNat) 1) N f) ∨ (p = false ∧ IsS w' s { q with vo := vo, vi := vi } E I m N f)) := by
  have hb := h.blk
  obtain ⟨A, c, hv, hc⟩ := h.own.rd.form
  refine calls_zc (n := 44) (f := 16) (fn := Try.f16) Try.func16 rfl rfl (by simp) ?_
  refine zc_seq ?_
  refine zc_region ?_
  refine zl_pureL rfl ?_
  refine zl_nil ?_
  refine zk_seq ?_
  refine zc_seq ?_
  refine zc_region ?_
  iterate 2 (refine zl_pureL rfl ?_)
  refine zl_call (by first | exact want_none | exact want_L rfl) rfl (by decide) rfl (sFresh_calls h hB n) ?_
  rintro _ w1 ⟨rfl, hC1⟩
  refine ⟨_, rfl, ?_⟩
  iterate 3 (refine zl_pureL rfl ?_)
  refine z_alloc (by first | exact want_none | exact want_L rfl) (by decide) (fun w2 b2 hN2 => ?_)
  have hb2 : Blk w2 b2 74 [.int .i64 0, .int .i64 0, .string ⟨#[]⟩] := hN2.blk
  refine z_store (by first | exact want_none | exact want_L rfl) rfl rfl rfl (by assumption) (by first | exact Nat.le_refl _ | simp [Value.cells]) (by simp [Value.cells, Value.oneCell']) (fun w3 hU3 => ?_)
  have hb3 : Blk w3 b2 74 [.int .i64 n, .int .i64 (nodeOf N n).space, .string (nodeOf N n).name] := hU3.blk
  have hC3 : Chg w w3 No := (hC1.no hN2.chg).upd hU3 (by have := hN2.at_; have := hC1.size; omega)
  have h3 := h.no hC3
  have hbs3 := h3.blk
  rw [hv] at hbs3
  cases hfr : freshB N I n
  · refine zl_pureL rfl ?_
    refine zl_nil ?_
    refine zk_seq ?_
    iterate 2 (refine zc_seq ?_)
    refine zc_region ?_
    iterate 4 (refine zl_pureL rfl ?_)
    refine zl_skip rfl ?_
    iterate 5 (refine zl_pureL rfl ?_)
    iterate 4 (refine zl_skip rfl ?_)
    refine zl_pureL rfl ?_
    refine zl_nil ?_
    refine zk_seq ?_
    refine zc_true rfl ?_
    refine zc_seq ?_
    refine zc_region ?_
    refine zl_pureL rfl ?_
    refine zl_nil ?_
    refine zk_seq ?_
    refine zc_ret ?_
    refine zk_ret_then ?_
    exact zk_ret1 (.inr rfl) rfl rfl ⟨_, q.vo, q.vi, rfl, WrS.of_no hC3 _ _, .inr ⟨rfl, h3⟩⟩
  have hfr' := hfr
  unfold freshB at hfr'
  rw [decide_eq_true_eq] at hfr'
  have hin : isN N n := by
    have := hfr'.1
    unfold nodeOf at this
    split at this
    · assumption
    · simp [n0] at this
  obtain ⟨k, rfl⟩ : ∃ k : Nat, n = k := ⟨n.toNat, by have := hin.1; omega⟩
  have hnd : nodeOf N (k : Nat) = N.getD k n0 := if_pos hin
  have hkN : k < N.length := by have := hin.2; omega
  rw [hnd] at hb3
  rw [hnd]
  by_cases hi1 : i < 1
  · refine zl_pureL rfl ?_
    refine zl_nil ?_
    refine zk_seq ?_
    iterate 2 (refine zc_seq ?_)
    refine zc_region ?_
    iterate 4 (refine zl_pureL rfl ?_)
    refine z_cmpB (r := true) (want_L rfl) (by decide) rfl rfl rfl (iff_of_true rfl (by omega)) ?_
    iterate 5 (refine zl_pureL rfl ?_)
    iterate 4 (refine zl_skip rfl ?_)
    refine zl_pureL rfl ?_
    refine zl_nil ?_
    refine zk_seq ?_
    refine zc_true rfl ?_
    refine zc_seq ?_
    refine zc_region ?_
    refine zl_pureL rfl ?_
    refine zl_nil ?_
    refine zk_seq ?_
    refine zc_ret ?_
    refine zk_ret_then ?_
    exact zk_ret1 (.inr rfl) rfl rfl ⟨_, q.vo, q.vi, rfl, WrS.of_no hC3 _ _, .inr ⟨rfl, h3⟩⟩
  obtain ⟨j, rfl⟩ : ∃ j : Nat, i = j := ⟨i.toNat, by omega⟩
  by_cases hi2 : (j : Int) > E.length
  · refine zl_pureL rfl ?_
    refine zl_nil ?_
    refine zk_seq ?_
    iterate 2 (refine zc_seq ?_)
    refine zc_region ?_
    iterate 4 (refine zl_pureL rfl ?_)
    refine z_cmpB (r := false) (want_L rfl) (by decide) rfl rfl rfl (iff_of_false Bool.false_ne_true (by omega)) ?_
    iterate 5 (refine zl_pureL rfl ?_)
    refine z_fa (want_L rfl) (by decide) rfl ?_
    refine z_loadB (want_L rfl) (by decide) rfl (by assumption) (by rfl) ?_
    refine z_len (want_L rfl) (by decide) rfl ?_
    refine z_cmpB (r := true) (want_L rfl) (by decide) rfl rfl rfl (iff_of_true rfl (by omega)) ?_
    refine zl_pureL rfl ?_
    refine zl_nil ?_
    refine zk_seq ?_
    refine zc_true rfl ?_
    refine zc_seq ?_
    refine zc_region ?_
    refine zl_pureL rfl ?_
    refine zl_nil ?_
    refine zk_seq ?_
    refine zc_ret ?_
    refine zk_ret_then ?_
    exact zk_ret1 (.inr rfl) rfl rfl ⟨_, q.vo, q.vi, rfl, WrS.of_no hC3 _ _, .inr ⟨rfl, h3⟩⟩
  refine zl_pureL rfl ?_
  refine zl_nil ?_
  refine zk_seq ?_
  iterate 2 (refine zc_seq ?_)
  refine zc_region ?_
  iterate 4 (refine zl_pureL rfl ?_)
  refine z_cmpB (r := false) (want_L rfl) (by decide) rfl rfl rfl (iff_of_false Bool.false_ne_true (by omega)) ?_
  iterate 5 (refine zl_pureL rfl ?_)
  refine z_fa (want_L rfl) (by decide) rfl ?_
  refine z_loadB (want_L rfl) (by decide) rfl (by assumption) (by rfl) ?_
  refine z_len (want_L rfl) (by decide) rfl ?_
  refine z_cmpB (r := false) (want_L rfl) (by decide) rfl rfl rfl (iff_of_false Bool.false_ne_true (by omega)) ?_
  refine zl_pureL rfl ?_
  refine zl_nil ?_
  refine zk_seq ?_
  refine zc_false rfl ?_
  refine zc_skip ?_
  refine zk_seq ?_
  refine zc_seq ?_
  refine zc_region ?_
  refine zl_pureL rfl ?_
  refine z_loadAB want_none (by decide) rfl (by assumption) (by rfl) ?_
  refine zl_call (by first | exact want_none | exact want_L rfl) rfl (by decide) rfl (sComes_calls h3 (entN N k) (show k ≤ 1000000 by omega) hI hm) ?_
  rintro _ w4 ⟨rfl, vi, h4, hW4⟩
  refine ⟨_, rfl, ?_⟩
  have hs4 := hW4.chg.size
  have hb4 : Blk w4 b2 74 [.int .i64 k, .int .i64 (N.getD k n0).space, .string (N.getD k n0).name] := hb3.chg hW4.chg (fun hf => by
    have := hN2.at_
    have := hC1.size
    have hlt := h.lt b2 (by simpa [footS] using hf)
    omega)
  have hbs4 := h4.blk
  dsimp only at hbs4
  rw [hv] at hbs4
  refine zl_nil ?_
  refine zk_seq ?_
  refine zc_seq ?_
  refine zc_draw [11] (fun w' => Blk w' s 72 [.pointer (some ⟨q.pd, 0, none⟩), .pointer (some ⟨q.pm, 0, none⟩), .slice A E.length c, vi, .map (some q.r), .bool f] ∧ Blk w' b2 74 [.int .i64 k, .int .i64 (N.getD k n0).space, .string (N.getD k n0).name]) (.take 0 (.take 1 (.take 2 (.take 3 (.take 4 (.take 5 (.take 6 (.all1 7 (.all1 8 (.plain 9 (.take 10 (.last 11)))))))))))) (by rfl) (by kernel_rfl) (by kernel_rfl) (fun w5 hC5 _ => ⟨?_, ?_⟩)
  · exact ⟨hbs4.no hC5, hb4.no hC5⟩
  iterate 3 (refine zs_take rfl (zt_pure rfl ?_))
  refine zs_rdL rfl want_none rfl (by decide) (fun _ hS => r_fa rfl) ?_
  refine zs_rdL rfl want_none rfl (by decide) (fun _ hS => r_loadB rfl hS.1 (by rfl)) ?_
  refine zs_take rfl (zt_pure rfl ?_)
  refine zs_rdL rfl want_none rfl (by decide) (fun _ hS => r_loadAB rfl hS.2 (by rfl)) ?_
  refine zs_bs1 rfl (by first | exact want_none | exact want_L rfl) (by decide) rfl (by rfl) (by rfl) (by decide) (by decide) (fun w6 b6 hN6 => ?_)
  have h6 := (h4.no hC5).no hN6.chg
  have hb6s := (hbs4.no hC5).no hN6.chg
  have hb6 := (hb4.no hC5).no hN6.chg
  refine ⟨⟨hb6s, hb6⟩, ?_⟩
  have hvb6 : Blk w6 b6 74 (encE [entN N k]) := hN6.blk
  have hO6 := h6.own
  dsimp only at hO6
  skip
  refine zs_call rfl (by first | exact want_none | exact want_L rfl) rfl (by decide) rfl (sInsG_calls (wp := w6) (by rw [hv] at hO6; exact hO6) hvb6 rfl (encE_one _) (fun he => by
    rw [← hv] at he
    have := h.own.lt he
    have := hN6.at_
    have := hC5.size
    have := hC3.size
    omega) (by omega) (show j ≤ E.length by omega)) ?_
  rintro _ w7 ⟨v7, rfl, hO7, hX7, hr7⟩
  have hR7 : OneT w6 74 (fun k => (Value.slice A E.length c).ownBlock = some k) := fun k hk => by rw [← hv] at hk; exact hO6.blk hk
  have hb7s := hb6s.typ hX7 hR7 (by decide)
  have hb7 := hb6.chg hX7 (fun he => by
    rw [← hv] at he
    have := h.own.lt he
    have := hN2.at_
    have := hC1.size
    omega)
  refine ⟨_, rfl, ⟨hb7s, hb7⟩, ?_⟩
  obtain ⟨A7, c7, hv7, _⟩ := hO7.rd.form
  subst hv7
  refine zs_plainL rfl rfl ?_
  refine zs_rdL rfl want_none rfl (by decide) (fun _ hS => r_fa rfl) ?_
  refine zs_storeL rfl (by first | exact want_none | exact want_L rfl) rfl rfl rfl (by assumption) (by first | exact Nat.le_refl _ | simp [Value.cells]) (by simp [Value.cells, Value.oneCell']) (fun w8 hU8 => ?_)
  obtain ⟨g1, g2⟩ := h6.growO (E' := insE E j (entN N k)) (v := .slice A7 (E.length + 1) c7) (by dsimp only; rw [hv]; exact hX7) (by rw [insE_len _ _ _ (by omega), encE_ins]; exact hO7) (by dsimp only; rw [hv]; exact hr7) hU8
  refine zk_seq ?_
  refine zc_seq ?_
  refine zc_region ?_
  refine zl_pureL rfl ?_
  refine zl_nil ?_
  refine zk_seq ?_
  refine zc_ret ?_
  exact zk_ret1 (.inr rfl) rfl rfl ⟨_, _, vi, rfl, ((WrS.of_no hC3 _ _).trans hW4).trans (((WrS.of_no hC5 _ _).no hN6.chg).trans g2), .inl ⟨rfl, rfl, ⟨by omega, by omega⟩, g1⟩⟩
end
end Go.Proofs.Yteeibieaapiomaa.D
