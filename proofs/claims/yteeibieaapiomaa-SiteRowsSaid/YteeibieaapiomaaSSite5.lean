import Derived.Test.YteeibieaapiomaaSSite4
/- A Site: Push, Pop. -/
namespace Go.Proofs.Yteeibieaapiomaa.D
open Go Go.Z Go.Proofs
set_option linter.unusedVariables false
section
variable {w w' w1 w2 : World} {s : Nat} {q q' q1 q2 : SP} {E E' : List Ent} {I I' : List Bool} {m m' : ByteArray → Int} {N N' : List ND} {f : Bool}
theorem IsS.growO (h : IsS w s q E I m N f) {v : Value} (hc : Chg w w1 (fun k => q.vo.ownBlock = some k)) (hO : Own w1 74 3 v E'.length (encE E')) (hr : v.ownBlock = q.vo.ownBlock ∨ ∃ k, v.ownBlock = some k ∧ w.heap.size ≤ k)
    (hU : Upd w1 w2 s 72 [.pointer (some ⟨q.pd, 0, none⟩), .pointer (some ⟨q.pm, 0, none⟩), v, q.vi, .map (some q.r), .bool f]) : IsS w2 s { q with vo := v } E' I m N f ∧ WrS w w2 s q { q with vo := v } := by
  have hR : OneT w 74 (fun k => q.vo.ownBlock = some k) := fun k hk => h.own.blk hk
  have hb1 := h.blk.typ hc hR (by decide)
  have hR1 : OneT w1 72 (fun k => k = s) := fun k hk => ⟨_, hk ▸ hb1⟩
  refine ⟨⟨hU.blk, (h.doc.typ hc hR (by decide) (by decide) (by decide) (by decide) (by decide) (by decide)).typ hU.chg hR1 (by decide) (by decide) (by decide) (by decide) (by decide) (by decide), (h.mrk.typ hc hR (by decide)).typ hU.chg hR1 (by decide), hO.typ hU.chg hR1 (by decide), (h.iso.typ hc hR (by decide)).typ hU.chg hR1 (by decide), (h.mp.typ hc hR).typ hU.chg hR1⟩, ⟨(hc.mono (fun k _ hk => .inr (.inl hk))).trans hU.chg (fun k _ hk => .inl hk), ?_⟩⟩
  rintro k (hk | hk | hk | hk | hk)
  · exact .inl (.inl hk)
  · rcases hr with e | ⟨j, e, e2⟩
    · exact .inl (.inr (.inl (e ▸ hk)))
    · have hk : v.ownBlock = some k := hk
      rw [hk] at e; cases e; exact .inr e2
  · exact .inl (.inr (.inr (.inl hk)))
  · exact .inl (.inr (.inr (.inr (.inl hk))))
  · exact .inl (.inr (.inr (.inr (.inr hk))))
theorem sInsEnd_calls {vo v : Value} {n : Nat} {cs ec : List Value} (h : Own w 74 3 vo n cs) (hr : RdS w 74 3 v 1 ec) (hn : n ≤ 1000000) : Calls Try.prog 52 [vo, .int .i64 n, v].toArray w fun x w' => ∃ v', x = .returned v' ∧ Own w' 74 3 v' (n + 1) (cs ++ ec) ∧ Chg w w' (fun k => vo.ownBlock = some k) ∧ (v'.ownBlock = vo.ownBlock ∨ ∃ k, v'.ownBlock = some k ∧ w.heap.size ≤ k) := by
  obtain ⟨A, c, hv, hc⟩ := h.rd.form
  obtain ⟨A1, c1, hv1, _⟩ := hr.form
  subst hv; subst hv1
  refine calls_zc (n := 95) (f := 52) (fn := Try.f52) Try.func52 rfl rfl (by simp) ?_
  refine zc_seq ?_
  refine zc_region ?_
  refine zl_pureL rfl ?_
  refine zl_nil ?_
  refine zk_seq ?_
  refine zc_seq ?_
  refine zc_region ?_
  iterate 2 (refine zl_pureL rfl ?_)
  refine zl_run (by first | exact want_none | exact want_L rfl) rfl (by decide) (r_cutFrom (k := n) rfl rfl (by omega) (by omega)) ?_
  refine zl_nil ?_
  refine zk_seq ?_
  refine zc_seq ?_
  refine zc_region ?_
  refine zl_pureL rfl ?_
  refine z_len want_none (by decide) rfl ?_
  refine zl_pureL rfl ?_
  refine zl_nil ?_
  refine zk_seq ?_
  iterate 2 (refine zc_seq ?_)
  refine zc_region ?_
  refine zl_pureL rfl ?_
  refine z_cmpB (r := false) want_none (by decide) rfl rfl rfl (iff_of_false Bool.false_ne_true (by omega)) ?_
  refine zl_nil ?_
  refine zk_seq ?_
  refine zc_false rfl ?_
  refine zc_skip ?_
  refine zk_seq ?_
  refine zc_seq ?_
  refine zc_region ?_
  refine zl_pureL rfl ?_
  refine z_len want_none (by decide) rfl ?_
  refine zl_pureL rfl ?_
  refine zl_nil ?_
  refine zk_seq ?_
  iterate 2 (refine zc_seq ?_)
  refine zc_region ?_
  iterate 2 (refine zl_pureL rfl ?_)
  refine z_cmpB (r := true) want_none (by decide) rfl rfl rfl (iff_of_true rfl (by omega)) ?_
  refine zl_nil ?_
  refine zk_seq ?_
  refine zc_true rfl ?_
  refine zc_seq ?_
  refine zc_region ?_
  iterate 2 (refine zl_pureL rfl ?_)
  refine z_appendO (by rfl) (by decide) (by first | exact want_none | exact want_L rfl) (by decide) rfl rfl h hr (by omega) (by omega) (fun v3 u3 hO3 hX3 hr3 => ?_)
  obtain ⟨A3, c3, hv3, _⟩ := hO3.rd.form
  subst hv3
  refine zl_pureL rfl ?_
  refine zl_nil ?_
  refine zk_seq ?_
  refine zc_ret ?_
  refine zk_ret_then ?_
  exact zk_ret1 (.inr rfl) rfl rfl ⟨_, rfl, hO3, hX3, hr3⟩
def entN (N : List ND) (n : Nat) : Ent := ⟨n, (N.getD n n0).space, (N.getD n n0).name⟩
set_option maxRecDepth 100000 in
set_option maxHeartbeats 8000000 in
/-- an element is put at the end, or is none, or open -/
theorem sPutEnd_calls (h : IsS w s q E I m N f) (hB : BigT N) (n : Nat) (hn : n < N.length) (hN : N.length ≤ 1000000) (hE0 : 0 < E.length) (hE : E.length ≤ 900000) (hI : I.length ≤ 1000000) (hm : SmallM m) :
    Calls Try.prog 16 [.pointer (some ⟨s, 0, none⟩), .int .i64 E.length, .int .i64 n].toArray w fun x w' => x = .returned (.bool (freshB N I n)) ∧ ∃ vo vi, WrS w w' s q { q with vo := vo, vi := vi } ∧ (if freshB N I n = true then IsS w' s { q with vo := vo, vi := vi } (E ++ [entN N n]) (comI I n) (cntM m (entN N n) 1) N f else IsS w' s { q with vo := vo, vi := vi } E I m N f) := by
  have hb := h.blk
  obtain ⟨A, c, hv, hc⟩ := h.own.rd.form
  have hnd : nodeOf N (n : Nat) = N.getD n n0 := if_pos ⟨by omega, by omega⟩
  refine calls_zc (n := 44) (f := 16) (fn := Try.f16) Try.func16 rfl rfl (by simp) ?_
  refine zc_seq ?_
  refine zc_region ?_
  refine zl_pureL rfl ?_
  refine zl_nil ?_
  refine zk_seq ?_
  refine zc_seq ?_
  refine zc_region ?_
  iterate 2 (refine zl_pureL rfl ?_)
  refine zl_call (by first | exact want_none | exact want_L rfl) rfl (by decide) rfl (sFresh_calls h hB (n : Nat)) ?_
  rintro _ w1 ⟨rfl, hC1⟩
  refine ⟨_, rfl, ?_⟩
  rw [hnd]
  iterate 3 (refine zl_pureL rfl ?_)
  refine z_alloc (by first | exact want_none | exact want_L rfl) (by decide) (fun w2 b2 hN2 => ?_)
  have hb2 : Blk w2 b2 74 [.int .i64 0, .int .i64 0, .string ⟨#[]⟩] := hN2.blk
  refine z_store (by first | exact want_none | exact want_L rfl) rfl rfl rfl (by assumption) (by first | exact Nat.le_refl _ | simp [Value.cells]) (by simp [Value.cells, Value.oneCell']) (fun w3 hU3 => ?_)
  have hb3 : Blk w3 b2 74 [.int .i64 n, .int .i64 (N.getD n n0).space, .string (N.getD n n0).name] := hU3.blk
  have hC3 : Chg w w3 No := (hC1.no hN2.chg).upd hU3 (by have := hN2.at_; have := hC1.size; omega)
  have h3 := h.no hC3
  have hbs3 := h3.blk
  rw [hv] at hbs3
  cases hfr : freshB N I (n : Nat)
  · refine zl_pureL rfl ?_
    refine zl_nil ?_
    refine zk_seq ?_
    iterate 2 (refine zc_seq ?_)
    refine zc_region ?_
    iterate 4 (refine zl_pureL rfl ?_)
    refine zl_skip rfl ?_
    iterate 5 (refine zl_pureL rfl ?_)
    iterate 4 (refine zl_skip rfl ?_)
    refine zl_pureL rfl ?_
    refine zl_nil ?_
    refine zk_seq ?_
    refine zc_true rfl ?_
    refine zc_seq ?_
    refine zc_region ?_
    refine zl_pureL rfl ?_
    refine zl_nil ?_
    refine zk_seq ?_
    refine zc_ret ?_
    refine zk_ret_then ?_
    refine zk_ret1 (.inr rfl) rfl rfl ⟨rfl, q.vo, q.vi, WrS.of_no hC3 _ _, ?_⟩
    rw [if_neg Bool.false_ne_true]
    exact h3
  · refine zl_pureL rfl ?_
    refine zl_nil ?_
    refine zk_seq ?_
    iterate 2 (refine zc_seq ?_)
    refine zc_region ?_
    iterate 4 (refine zl_pureL rfl ?_)
    refine z_cmpB (r := false) (want_L rfl) (by decide) rfl rfl rfl (iff_of_false Bool.false_ne_true (by omega)) ?_
    iterate 5 (refine zl_pureL rfl ?_)
    refine z_fa (want_L rfl) (by decide) rfl ?_
    refine z_loadB (want_L rfl) (by decide) rfl (by assumption) (by rfl) ?_
    refine z_len (want_L rfl) (by decide) rfl ?_
    refine z_cmpB (r := false) (want_L rfl) (by decide) rfl rfl rfl (iff_of_false Bool.false_ne_true (by omega)) ?_
    refine zl_pureL rfl ?_
    refine zl_nil ?_
    refine zk_seq ?_
    refine zc_false rfl ?_
    refine zc_skip ?_
    refine zk_seq ?_
    refine zc_seq ?_
    refine zc_region ?_
    refine zl_pureL rfl ?_
    refine z_loadAB want_none (by decide) rfl (by assumption) (by rfl) ?_
    refine zl_call (by first | exact want_none | exact want_L rfl) rfl (by decide) rfl (sComes_calls h3 (entN N n) (show n ≤ 1000000 by omega) hI hm) ?_
    rintro _ w4 ⟨rfl, vi, h4, hW4⟩
    refine ⟨_, rfl, ?_⟩
    have hs4 := hW4.chg.size
    have hb4 : Blk w4 b2 74 [.int .i64 n, .int .i64 (N.getD n n0).space, .string (N.getD n n0).name] := hb3.chg hW4.chg (fun hf => by
      have := hN2.at_
      have := hC1.size
      have hlt := h.lt b2 (by simpa [footS] using hf)
      omega)
    have hbs4 := h4.blk
    dsimp only at hbs4
    rw [hv] at hbs4
    refine zl_nil ?_
    refine zk_seq ?_
    refine zc_seq ?_
    refine zc_draw [11] (fun w' => Blk w' s 72 [.pointer (some ⟨q.pd, 0, none⟩), .pointer (some ⟨q.pm, 0, none⟩), .slice A E.length c, vi, .map (some q.r), .bool f] ∧ Blk w' b2 74 [.int .i64 n, .int .i64 (N.getD n n0).space, .string (N.getD n n0).name]) (.take 0 (.take 1 (.take 2 (.take 3 (.take 4 (.take 5 (.take 6 (.all1 7 (.all1 8 (.plain 9 (.take 10 (.last 11)))))))))))) (by rfl) (by kernel_rfl) (by kernel_rfl) (fun w5 hC5 _ => ⟨?_, ?_⟩)
    · exact ⟨hbs4.no hC5, hb4.no hC5⟩
    iterate 3 (refine zs_take rfl (zt_pure rfl ?_))
    refine zs_rdL rfl want_none rfl (by decide) (fun _ hS => r_fa rfl) ?_
    refine zs_rdL rfl want_none rfl (by decide) (fun _ hS => r_loadB rfl hS.1 (by rfl)) ?_
    refine zs_take rfl (zt_pure rfl ?_)
    refine zs_rdL rfl want_none rfl (by decide) (fun _ hS => r_loadAB rfl hS.2 (by rfl)) ?_
    refine zs_bs1 rfl (by first | exact want_none | exact want_L rfl) (by decide) rfl (by rfl) (by rfl) (by decide) (by decide) (fun w6 b6 hN6 => ?_)
    have h6 := (h4.no hC5).no hN6.chg
    have hb6s := (hbs4.no hC5).no hN6.chg
    have hb6 := (hb4.no hC5).no hN6.chg
    refine ⟨⟨hb6s, hb6⟩, ?_⟩
    have hr6 : RdS w6 74 3 (.slice (some ⟨b6, 0, none⟩) 1 1) 1 (encE [entN N n]) := RdS.new hN6 rfl (encE_one _)
    have hO6 := h6.own
    dsimp only at hO6
    skip
    refine zs_call rfl (by first | exact want_none | exact want_L rfl) rfl (by decide) rfl (sInsEnd_calls (by rw [hv] at hO6; exact hO6) hr6 (by omega)) ?_
    rintro _ w7 ⟨v7, rfl, hO7, hX7, hr7⟩
    have hR7 : OneT w6 74 (fun k => (Value.slice A E.length c).ownBlock = some k) := fun k hk => by rw [← hv] at hk; exact hO6.blk hk
    have hb7s := hb6s.typ hX7 hR7 (by decide)
    have hb7 := hb6.chg hX7 (fun he => by
      rw [← hv] at he
      have := h.own.lt he
      have := hN2.at_
      have := hC1.size
      omega)
    refine ⟨_, rfl, ⟨hb7s, hb7⟩, ?_⟩
    obtain ⟨A7, c7, hv7, _⟩ := hO7.rd.form
    subst hv7
    refine zs_plainL rfl rfl ?_
    refine zs_rdL rfl want_none rfl (by decide) (fun _ hS => r_fa rfl) ?_
    refine zs_storeL rfl (by first | exact want_none | exact want_L rfl) rfl rfl rfl (by assumption) (by first | exact Nat.le_refl _ | simp [Value.cells]) (by simp [Value.cells, Value.oneCell']) (fun w8 hU8 => ?_)
    obtain ⟨g1, g2⟩ := h6.growO (E' := E ++ [entN N n]) (v := .slice A7 (E.length + 1) c7) (by dsimp only; rw [hv]; exact hX7) (by rw [List.length_append, encE_app]; exact hO7) (by dsimp only; rw [hv]; exact hr7) hU8
    refine zk_seq ?_
    refine zc_seq ?_
    refine zc_region ?_
    refine zl_pureL rfl ?_
    refine zl_nil ?_
    refine zk_seq ?_
    refine zc_ret ?_
    refine zk_ret1 (.inr rfl) rfl rfl ⟨rfl, _, vi, ((WrS.of_no hC3 _ _).trans hW4).trans (((WrS.of_no hC5 _ _).no hN6.chg).trans g2), ?_⟩
    rw [if_pos rfl]
    exact g1
set_option maxHeartbeats 8000000 in
theorem sPush_calls (h : IsS w s q E I m N f) (hB : BigT N) (n : Nat) (hn : n < N.length) (hN : N.length ≤ 1000000) (hE0 : 0 < E.length) (hE : E.length ≤ 900000) (hI : I.length ≤ 1000000) (hm : SmallM m) :
    Calls Try.prog 19 [.pointer (some ⟨s, 0, none⟩), .int .i64 n].toArray w fun x w' => x = .returned (.bool (freshB N I n)) ∧ ∃ vo vi, WrS w w' s q { q with vo := vo, vi := vi } ∧ (if freshB N I n = true then IsS w' s { q with vo := vo, vi := vi } (E ++ [entN N n]) (comI I n) (cntM m (entN N n) 1) N f else IsS w' s { q with vo := vo, vi := vi } E I m N f) := by
  have hb := h.blk
  obtain ⟨A, c, hv, hc⟩ := h.own.rd.form
  rw [hv] at hb
  refine calls_zc (n := 13) (f := 19) (fn := Try.f19) Try.func19 rfl rfl (by simp) ?_
  refine zc_seq ?_
  refine zc_region ?_
  refine zl_pureL rfl ?_
  refine zl_nil ?_
  refine zk_seq ?_
  refine zc_seq ?_
  refine zc_region ?_
  iterate 3 (refine zl_pureL rfl ?_)
  refine z_fa want_none (by decide) rfl ?_
  refine z_loadB want_none (by decide) rfl (by assumption) (by rfl) ?_
  refine z_len want_none (by decide) rfl ?_
  refine zl_pureL rfl ?_
  refine zl_call (by first | exact want_none | exact want_L rfl) rfl (by decide) rfl (sPutEnd_calls h hB n hn hN hE0 hE hI hm) ?_
  rintro _ w1 ⟨rfl, h1⟩
  refine ⟨_, rfl, ?_⟩
  refine zl_pureL rfl ?_
  refine zl_nil ?_
  refine zk_seq ?_
  refine zc_ret ?_
  exact zk_ret1 (.inr rfl) rfl rfl ⟨rfl, h1⟩
end
end Go.Proofs.Yteeibieaapiomaa.D
