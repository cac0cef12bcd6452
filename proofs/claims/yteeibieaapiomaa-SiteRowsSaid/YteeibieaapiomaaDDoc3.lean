import Derived.Test.YteeibieaapiomaaDLaw
/- A node more: add, Elem, Note, New. -/
namespace Go.Proofs.Yteeibieaapiomaa.D
open Go Go.Z Go.Proofs
set_option linter.unusedVariables false
section
variable {w w' w2 w3 w4 : World} {p : Nat} {vl v3 : Value} {Q : List PN} {N : List ND} {q : PN} {x : ND}
theorem IsD.row45 (h : IsD w p vl Q N) : ∀ b cells, Blk w b 89 cells → ¬ vl.ownBlock = some b := fun b cells hb he => h.row.ne he hb (by decide) rfl
theorem IsD.node_row (h : IsD w p vl Q N) {i : Nat} (hi : i < N.length) : ∀ k, nf (Q.getD i q0) k → ¬ vl.ownBlock = some k := fun k hk he => by
  obtain ⟨cells, hb⟩ := h.row.blk he
  exact (h.at_ i hi).ne hk hb (by decide) (by decide) (by decide) rfl
theorem IsD.node_p (h : IsD w p vl Q N) {i : Nat} (hi : i < N.length) : ∀ k, nf (Q.getD i q0) k → ¬ k = p := fun k hk he => by
  subst he; exact (h.at_ i hi).ne hk h.blk (by decide) (by decide) (by decide) rfl
theorem IsD.row_p (h : IsD w p vl Q N) : ¬ vl.ownBlock = some p := fun he => h.row.ne he h.blk (by decide) rfl
theorem IsD.grow (h : IsD w2 p vl Q N) (hq : NodeAt w2 q x) (hap : ∀ k, nf q k → ¬ foot p vl Q k) (hO : Own w3 76 1 v3 (Q.length + 1) (ptrC Q ++ ptrC [q])) (hC : Chg w2 w3 (fun k => vl.ownBlock = some k))
    (hr : v3.ownBlock = vl.ownBlock ∨ ∃ k, v3.ownBlock = some k ∧ w2.heap.size ≤ k) (hU : Upd w3 w4 p 102 [v3]) :
    IsD w4 p v3 (Q ++ [q]) (N ++ [x]) ∧ Chg w2 w4 (foot p vl Q) ∧ (∀ k, foot p v3 (Q ++ [q]) k → foot p vl Q k ∨ nf q k ∨ w2.heap.size ≤ k) ∧ (∀ b cells, Blk w2 b 89 cells → Blk w4 b 89 cells) := by
  have hp3 := h.blk.chg hC h.row_p
  have hC4 : Chg w2 w4 (foot p vl Q) := (hC.mono (fun _ _ h => .inr (.inl h))).trans hU.chg (fun _ _ h => .inl h)
  have k45a : ∀ b cells, Blk w2 b 89 cells → Blk w3 b 89 cells := fun b cells hb => hb.chg hC (h.row45 b cells hb)
  have k45 : ∀ b cells, Blk w2 b 89 cells → Blk w4 b 89 cells := fun b cells hb => (k45a b cells hb).upd hU (by decide)
  have nodes : ∀ {q' : PN} {x' : ND}, NodeAt w2 q' x' → (∀ k, nf q' k → ¬ vl.ownBlock = some k) → (∀ k, nf q' k → ¬ k = p) → NodeAt w4 q' x' := fun hn h1 h2 =>
    (hn.chg hC h1 h.row45).chg hU.chg h2 (fun b cells hb he => hb.ne hp3 (by decide) he)
  refine ⟨⟨hU.blk, ?_, by simp [h.len], fun i hi => ?_, fun i j hi hj hne k hk hk' => ?_⟩, hC4, ?_, k45⟩
  · have : ptrC (Q ++ [q]) = ptrC Q ++ ptrC [q] := by simp [ptrC]
    rw [this, List.length_append]
    exact hO.chg hU.chg (fun k hk he => hO.ne hk hp3 (by decide) he)
  · rw [getD_snoc, getD_snoc, h.len]
    by_cases h1 : i = N.length
    · rw [if_pos h1, if_pos h1]
      exact nodes hq (fun k hk he => hap k hk (.inr (.inl he))) (fun k hk he => hap k hk (.inl he))
    · rw [if_neg h1, if_neg h1]
      have hi' : i < N.length := by simp at hi; omega
      exact nodes (h.at_ i hi') (h.node_row hi') (h.node_p hi')
  · rw [getD_snoc, h.len] at hk hk'
    simp only [List.length_append, List.length_singleton] at hi hj
    by_cases h1 : i = N.length
    · rw [if_pos h1] at hk
      rw [if_neg (by omega)] at hk'
      exact hap k hk (.inr (.inr ⟨j, by rw [h.len]; omega, hk'⟩))
    · rw [if_neg h1] at hk
      by_cases h2 : j = N.length
      · rw [if_pos h2] at hk'
        exact hap k hk' (.inr (.inr ⟨i, by rw [h.len]; omega, hk⟩))
      · rw [if_neg h2] at hk'
        exact h.ap i j (by omega) (by omega) hne k hk hk'
  · rintro k (hk | hk | ⟨i, hi, hk⟩)
    · exact .inl (.inl hk)
    · rcases hr with h1 | ⟨j, h1, h2⟩
      · exact .inl (.inr (.inl (h1 ▸ hk)))
      · rw [hk] at h1; cases h1; exact .inr (.inr h2)
    · rw [getD_snoc] at hk
      simp only [List.length_append, List.length_singleton] at hi
      by_cases h1 : i = Q.length
      · rw [if_pos h1] at hk; exact .inr (.inl hk)
      · rw [if_neg h1] at hk; exact .inl (.inr (.inr ⟨i, by omega, hk⟩))
/-- the first cell of a node's block is written anew -/
theorem NodeAt.put {b va vt vk} {x x' : ND} (h : NodeAt w ⟨b, va, vt, vk⟩ x) (hU : Upd w w' b 80 [.int .i64 x'.kind, .int .i64 x'.space, .string x'.name, va, vt, .int .i64 x'.up, vk]) (ha : x'.attrs = x.attrs) (ht : x'.text = x.text) (hk : x'.kids = x.kids) : NodeAt w' ⟨b, va, vt, vk⟩ x' := by
  obtain ⟨h1, h2, h3, h4⟩ := h
  refine ⟨hU.blk, ?_, ?_, ?_⟩
  · rw [ha]; exact RdS.chg h2 hU.chg (fun c cells hb he => hb.ne h1 (by decide) he)
  · rw [ht]; exact h3.chg hU.chg (fun k hk he => h3.ne hk h1 (by decide) he)
  · rw [hk]; exact h4.chg hU.chg (fun k hk he => h4.ne hk h1 (by decide) he)
end
set_option maxHeartbeats 2000000 in
theorem add_calls {w : World} {p : Nat} {vl : Value} {Q : List PN} {N : List ND} (h : IsD w p vl Q N) (hl : N.length ≤ 100000) {q : PN} {x : ND} (hq : NodeAt w q x) (hap : ∀ k, nf q k → ¬ foot p vl Q k) {qb : Nat} (hqb : q.b = qb) :
    Calls Try.prog 45 [.pointer (some ⟨p, 0, none⟩), .pointer (some ⟨qb, 0, none⟩)].toArray w fun e w' => e = .returned (.int .i64 N.length) ∧ ∃ vl', IsD w' p vl' (Q ++ [q]) (N ++ [{ x with up := -1 }]) ∧
      Chg w w' (fun k => foot p vl Q k ∨ k = q.b) ∧ (∀ k, foot p vl' (Q ++ [q]) k → foot p vl Q k ∨ nf q k ∨ w.heap.size ≤ k) ∧ (∀ b cells, Blk w b 89 cells → Blk w' b 89 cells) := by
  subst hqb
  obtain ⟨qb, va, vt, vk⟩ := q
  obtain ⟨Aa, ca, hva, _⟩ := hq.2.1.form
  obtain ⟨At_, ct, hvt, _⟩ := hq.2.2.1.form
  obtain ⟨Ak, ck, hvk, _⟩ := hq.2.2.2.rd.form
  dsimp only at hva hvt hvk
  subst hva; subst hvt; subst hvk
  obtain ⟨A, c, rfl, hc⟩ := h.form
  have hqb := hq.1
  dsimp only at hqb
  have hQN := h.len
  refine calls_zc (n := 24) (f := 45) (fn := Try.f45) Try.func45 rfl rfl (by simp) ?_
  refine zc_seq ?_
  refine zc_region ?_
  refine zl_pureL rfl ?_
  refine zl_nil ?_
  refine zk_seq ?_
  refine zc_seq ?_
  refine zc_region ?_
  iterate 2 (refine zl_pureL rfl ?_)
  refine z_fa want_none (by decide) rfl ?_
  refine z_store (by first | exact want_none | exact want_L rfl) rfl rfl rfl (by assumption) (by first | exact Nat.le_refl _ | simp [Value.cells]) (by simp [Value.cells, Value.oneCell']) (fun w1 hU1 => ?_)
  have hq1 := NodeAt.put (x' := { x with up := -1 }) hq hU1 rfl rfl rfl
  have hb1 : Blk w1 p 102 [.slice A N.length c] := h.blk.chg hU1.chg (fun he => hap _ (.inl rfl) (.inl he.symm))
  have h1 : IsD w1 p (.slice A N.length c) Q N := h.chg hU1.chg (fun k hk he => hap _ (.inl rfl) (he ▸ hk)) (fun b cells hb he => hb.ne hqb (by decide) he)
  refine zl_nil ?_
  refine zk_seq ?_
  refine zc_seq ?_
  refine zc_region ?_
  iterate 3 (refine zl_pureL rfl ?_)
  refine z_fa want_none (by decide) rfl ?_
  refine z_loadB want_none (by decide) rfl (by assumption) (by rfl) ?_
  refine zl_pureL rfl ?_
  refine z_bs1 (by first | exact want_none | exact want_L rfl) (by decide) rfl (by rfl) (by rfl) (by decide) (by decide) (fun w2 b2 hN2 => ?_)
  have h2 := h1.no hN2.chg
  have hq2 := hq1.chg hN2.chg (fun _ _ => id) (fun _ _ _ => id)
  have hO2 := h2.row
  rw [hQN] at hO2
  refine z_appendO (by rfl) (by decide) (by first | exact want_none | exact want_L rfl) (by decide) rfl rfl hO2 (RdS.new (cs := [.pointer (some ⟨qb, 0, none⟩)]) (m := 1) hN2 rfl (by simp [Value.oneCell'])) (by omega) (by omega) (fun v3 w3 hO3 hC3 hr3 => ?_)
  have hb3 := h2.blk.chg hC3 h2.row_p
  obtain ⟨A3, c3, rfl, hc3⟩ := hO3.rd.form
  refine zl_pureL rfl ?_
  refine z_fa want_none (by decide) rfl ?_
  refine z_store (by first | exact want_none | exact want_L rfl) rfl rfl rfl (by assumption) (by first | exact Nat.le_refl _ | simp [Value.cells]) (by simp [Value.cells, Value.oneCell']) (fun w4 hU4 => ?_)
  obtain ⟨g1, g2, g3, g4⟩ := h2.grow (q := ⟨qb, _, _, _⟩) (v3 := .slice A3 (N.length + 1) c3) hq2 hap (by rw [hQN]; exact hO3) hC3 hr3 hU4
  have hb4 := g1.blk
  refine zl_nil ?_
  refine zk_seq ?_
  refine zc_seq ?_
  refine zc_region ?_
  iterate 2 (refine zl_pureL rfl ?_)
  refine z_fa want_none (by decide) rfl ?_
  refine z_loadB want_none (by decide) rfl (by assumption) (by rfl) ?_
  refine z_len want_none (by decide) rfl ?_
  refine z_sub want_none (by decide) rfl rfl (by omega) (by omega) ?_
  refine zl_pureL rfl ?_
  refine zl_nil ?_
  refine zk_seq ?_
  refine zc_ret ?_
  rw [show ((N.length + 1 : Nat) : Int) - 1 = (N.length : Int) by omega]
  refine zk_ret1 (.inr rfl) rfl rfl ⟨rfl, _, g1, ?_, fun k hk => ?_, fun b cells hb => g4 b cells ((hb.upd hU1 (by decide)).no hN2.chg)⟩
  · exact ((hU1.chg.mono (fun _ _ h => .inr h)).no hN2.chg).trans g2 (fun _ _ h => .inl h)
  · rcases g3 k hk with h5 | h5 | h5
    · exact .inl h5
    · exact .inr (.inl h5)
    · have := hU1.chg.size; have := hN2.chg.size; exact .inr (.inr (by omega))
/-- a node that was made since is added -/
theorem WrD.add {w w2 w3 : World} {p : Nat} {vl vl' : Value} {Q : List PN} {q : PN} (hC2 : Chg w w2 No) (hq : ∀ k, nf q k → w.heap.size ≤ k) (g2 : Chg w2 w3 (fun k => foot p vl Q k ∨ k = q.b)) (g3 : ∀ k, foot p vl' (Q ++ [q]) k → foot p vl Q k ∨ nf q k ∨ w2.heap.size ≤ k) (g4 : ∀ b cells, Blk w2 b 89 cells → Blk w3 b 89 cells) : WrD w w3 p vl Q vl' (Q ++ [q]) := by
  refine ⟨(hC2.mono (fun _ _ h => h.elim)).trans g2 (fun i hi h => ?_), fun k hk => ?_, fun b cells hb => g4 b cells (hb.no hC2)⟩
  · rcases h with h | h
    · exact h
    · have := hq _ (.inl rfl); omega
  · rcases g3 k hk with h | h | h
    · exact .inl h
    · exact .inr (hq k h)
    · have := hC2.size; exact .inr (by omega)
set_option maxHeartbeats 2000000 in
theorem elem'_calls {w : World} {p : Nat} {vl va : Value} {Q : List PN} {N : List ND} (h : IsD w p vl Q N) (hl : N.length ≤ 100000) (sp : Int) (nm : ByteArray) {l : List At} (ha : AttrS w va l) (hal : l.length ≤ 100000) :
    Calls Try.prog 11 [.pointer (some ⟨p, 0, none⟩), .int .i64 sp, .string nm, va].toArray w fun e w' => e = .returned (.int .i64 N.length) ∧ ∃ vl' Q', IsD w' p vl' Q' (N ++ [⟨1, sp, nm, l, [], -1, []⟩]) ∧ WrD w w' p vl Q vl' Q' := by
  obtain ⟨A0, c0, hv0, _⟩ := ha.form
  subst hv0
  refine calls_zc (n := 17) (f := 11) (fn := Try.f11) Try.func11 rfl rfl (by simp) ?_
  refine zc_seq ?_
  refine zc_region ?_
  refine zl_pureL rfl ?_
  refine zl_nil ?_
  refine zk_seq ?_
  refine zc_seq ?_
  refine zc_region ?_
  iterate 4 (refine zl_pureL rfl ?_)
  refine zl_call (by first | exact want_none | exact want_L rfl) rfl (by decide) rfl (copied_calls ha hal) ?_
  rintro _ w1 ⟨v1, rfl, ha1, hn1, hC1⟩
  obtain ⟨A1, c1, rfl, _⟩ := ha1.form
  refine ⟨_, rfl, ?_⟩
  skip
  refine z_buildE #[.int .i64 1, .int .i64 sp, .string nm, .slice A1 l.length c1, .slice none 0 0, .int .i64 0, .slice none 0 0] (by first | exact want_none | exact want_L rfl) (by decide) rfl (by kernel_rfl) ?_
  refine z_box (by first | exact want_none | exact want_L rfl) (by decide) rfl (fun w2 b2 hN2 => ?_)
  skip
  have hC2 := hC1.new hN2
  have hq : NodeAt w2 ⟨b2, .slice A1 l.length c1, .slice none 0 0, .slice none 0 0⟩ ⟨1, sp, nm, l, [], 0, []⟩ := ⟨hN2.blk, ha1.no hN2.chg, .nil, .nil⟩
  have hge := hN2.ge hC1
  have hnf : ∀ k, nf ⟨b2, .slice A1 l.length c1, .slice none 0 0, .slice none 0 0⟩ k → w.heap.size ≤ k := by
    rintro k (rfl | hk | hk)
    · exact hge
    · cases hk
    · cases hk
  refine zl_call (by first | exact want_none | exact want_L rfl) rfl (by decide) rfl (add_calls (h.no hC2) hl hq (fun k hk hf => by have := hnf k hk; have := h.lt k hf; omega) rfl) ?_
  rintro _ w3 ⟨rfl, vl', g1, g2, g3, g4⟩
  refine ⟨_, rfl, ?_⟩
  refine zl_pureL rfl ?_
  refine zl_nil ?_
  refine zk_seq ?_
  refine zc_ret ?_
  exact zk_ret1 (.inr rfl) rfl rfl ⟨rfl, _, _, g1, WrD.add hC2 hnf g2 g3 g4⟩
set_option maxHeartbeats 2000000 in
theorem note_calls {w : World} {p : Nat} {vl : Value} {Q : List PN} {N : List ND} (h : IsD w p vl Q N) (hl : N.length ≤ 100000) (s : List UInt8) (hs : s.length ≤ 100000) :
    Calls Try.prog 12 [.pointer (some ⟨p, 0, none⟩), .string (bs s)].toArray w fun e w' => e = .returned (.int .i64 N.length) ∧ ∃ vl' Q', IsD w' p vl' Q' (N ++ [⟨3, 0, ⟨#[]⟩, [], s, -1, []⟩]) ∧ WrD w w' p vl Q vl' Q' := by
  refine calls_zc (n := 11) (f := 12) (fn := Try.f12) Try.func12 rfl rfl (by simp) ?_
  refine zc_seq ?_
  refine zc_region ?_
  refine zl_pureL rfl ?_
  refine zl_nil ?_
  refine zk_seq ?_
  refine zc_seq ?_
  refine zc_region ?_
  iterate 2 (refine zl_pureL rfl ?_)
  refine z_convSO (by first | exact want_none | exact want_L rfl) (by decide) rfl (by simp [maxLen]; omega) (fun w1 b1 c1 hb1 hC1 hO1 => ?_)
  skip
  refine z_buildE #[.int .i64 3, .int .i64 0, .string ⟨#[]⟩, .slice none 0 0, .slice (some ⟨b1, 0, none⟩) s.length c1, .int .i64 0, .slice none 0 0] (by first | exact want_none | exact want_L rfl) (by decide) rfl (by kernel_rfl) ?_
  refine z_box (by first | exact want_none | exact want_L rfl) (by decide) rfl (fun w2 b2 hN2 => ?_)
  skip
  have hC2 := hC1.new hN2
  have hq : NodeAt w2 ⟨b2, .slice none 0 0, .slice (some ⟨b1, 0, none⟩) s.length c1, .slice none 0 0⟩ ⟨3, 0, ⟨#[]⟩, [], s, 0, []⟩ := ⟨hN2.blk, RdS.nil, hO1.no hN2.chg, .nil⟩
  have hge := hN2.ge hC1
  have hnf : ∀ k, nf ⟨b2, .slice none 0 0, .slice (some ⟨b1, 0, none⟩) s.length c1, .slice none 0 0⟩ k → w.heap.size ≤ k := by
    rintro k (rfl | hk | hk)
    · exact hge
    · simp [Value.ownBlock] at hk; omega
    · cases hk
  refine zl_call (by first | exact want_none | exact want_L rfl) rfl (by decide) rfl (add_calls (h.no hC2) hl hq (fun k hk hf => by have := hnf k hk; have := h.lt k hf; omega) rfl) ?_
  rintro _ w3 ⟨rfl, vl', g1, g2, g3, g4⟩
  refine ⟨_, rfl, ?_⟩
  refine zl_pureL rfl ?_
  refine zl_nil ?_
  refine zk_seq ?_
  refine zc_ret ?_
  exact zk_ret1 (.inr rfl) rfl rfl ⟨rfl, _, _, g1, WrD.add hC2 hnf g2 g3 g4⟩
def rootN : List ND := [⟨1, 1, ⟨#[]⟩, [], [], -1, []⟩]
theorem rootN_WF : WF rootN := by
  refine ⟨by decide, rfl, rfl, ?_, ?_, ?_, ⟨fun _ => 0, ?_⟩⟩
  · intro i hi
    have : i = 0 := by simp [rootN] at hi; omega
    subst this; decide
  · intro i k hi
    have : i = 0 := by simp [rootN] at hi; omega
    subst this
    refine iff_of_false (by simp [rootN]) ?_
    rintro ⟨h1, h2⟩
    have : k = 0 := by simp [rootN] at h1; omega
    subst this
    exact absurd h2 (by decide)
  · intro i hi
    have : i = 0 := by simp [rootN] at hi; omega
    subst this; exact List.nodup_nil
  · intro i hi j hj
    have : i = 0 := by simp [rootN] at hi; omega
    subst this
    have : (-1 : Int) = j := hj
    omega
theorem new_calls {w : World} : Calls Try.prog 43 [].toArray w fun e w' => ∃ p vl Q, e = .returned (.pointer (some ⟨p, 0, none⟩)) ∧ IsD w' p vl Q rootN ∧ Chg w w' No ∧ ∀ k, foot p vl Q k → w.heap.size ≤ k := by
  refine calls_zc (n := 7) (f := 43) (fn := Try.f43) Try.func43 rfl rfl (by simp) ?_
  refine zc_seq ?_
  refine zc_region ?_
  refine zl_pureL rfl ?_
  refine zl_nil ?_
  refine zk_seq ?_
  refine zc_seq ?_
  refine zc_region ?_
  refine z_buildE #[.slice none 0 0] (by first | exact want_none | exact want_L rfl) (by decide) rfl (by kernel_rfl) ?_
  refine z_box (by first | exact want_none | exact want_L rfl) (by decide) rfl (fun w1 b1 hN1 => ?_)
  refine zl_pureL rfl ?_
  refine zl_nil ?_
  refine zk_seq ?_
  refine zc_seq ?_
  refine zc_region ?_
  refine zl_pureL rfl ?_
  have h : IsD w1 b1 (.slice none 0 0) [] [] := ⟨hN1.blk, Own.nil, rfl, fun i hi => absurd hi (Nat.not_lt_zero _), fun i j hi => absurd hi (Nat.not_lt_zero _)⟩
  refine zl_call (by first | exact want_none | exact want_L rfl) rfl (by decide) rfl (elem'_calls h (by simp) 1 ⟨#[]⟩ (AttrS.nil _) (by simp)) ?_
  rintro _ w2 ⟨rfl, vl, Q, h2, hW⟩
  refine ⟨_, rfl, ?_⟩
  refine zl_nil ?_
  refine zk_seq ?_
  refine zc_seq ?_
  refine zc_region ?_
  iterate 2 (refine zl_pureL rfl ?_)
  refine zl_nil ?_
  refine zk_seq ?_
  refine zc_ret ?_
  have hge := Nat.le_of_eq hN1.at_.symm
  have ft0 : ∀ k, foot b1 (.slice none 0 0) [] k → w.heap.size ≤ k := by
    rintro k (rfl | hk | ⟨i, hi, _⟩)
    · exact hge
    · cases hk
    · exact absurd hi (Nat.not_lt_zero _)
  refine zk_ret1 (.inr rfl) rfl rfl ⟨_, _, _, rfl, h2, hN1.chg.trans hW.chg (fun i hi hf => by have := ft0 i hf; omega), fun k hk => ?_⟩
  rcases hW.ft k hk with h3 | h3
  · exact ft0 k h3
  · have := hN1.size; omega
end Go.Proofs.Yteeibieaapiomaa.D
