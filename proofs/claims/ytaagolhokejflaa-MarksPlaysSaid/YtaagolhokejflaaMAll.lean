import Derived.Test.YtaagolhokejflaaMWr
/- At, All. -/
namespace Go.Proofs.Ytaagolhokejflaa.M
open Go Go.Z Go.Proofs
set_option linter.unusedVariables false
theorem at_calls {w : World} {g : Nat} {v : Value} {L : List Mark} (h : IsM w 62 g v L) (hl : L.length ≤ 100000) (hal : ∀ m ∈ L, m.attrs.length ≤ 100000) (i : Nat) (hi : i < L.length) :
    Calls Try.prog 26 [Value.pointer (some ⟨g, 0, none⟩), .int .i64 i].toArray w fun e w' => ∃ av, e = .returned (.tuple #[.agg #[.int .i64 (L.getD i Mark.z).node, .string (L.getD i Mark.z).name, av], .bool true]) ∧ AttrS w' av (L.getD i Mark.z).attrs ∧ NewS w.heap.size av ∧ Chg w w' No := by
  obtain ⟨b, c, A0, hv, e0, e1, e2, ha⟩ := h.at_ i hi
  subst hv
  obtain ⟨A2, c2, rfl, hc2⟩ := ha.form
  have hg := h.1
  refine calls_zc (n := 26) (f := 26) (fn := Try.f26) Try.func26 rfl rfl (by simp) ?_
  refine zc_seq ?_
  refine zc_region ?_
  refine z_alloc (by first | exact want_none | exact want_L rfl) (by decide) (fun w1 b1 hN1 => ?_)
  have hb1 : Blk w1 b1 32 [.int .i64 0, .string ⟨#[]⟩, .slice none 0 0] := hN1.blk
  have hg1 := hg.no hN1.chg
  refine zl_pureL rfl ?_
  refine zl_nil ?_
  refine zk_seq ?_
  iterate 2 (refine zc_seq ?_)
  refine zc_region ?_
  refine zl_pureL rfl ?_
  refine z_cmpB (r := false) want_none (by decide) rfl rfl rfl (iff_of_false Bool.false_ne_true (by omega)) ?_
  iterate 4 (refine zl_pureL rfl ?_)
  refine z_fa (want_L rfl) (by decide) rfl ?_
  refine z_loadB (want_L rfl) (by decide) rfl (by assumption) (by rfl) ?_
  refine z_len (want_L rfl) (by decide) rfl ?_
  refine z_cmpB (r := false) (want_L rfl) (by decide) rfl rfl rfl (iff_of_false Bool.false_ne_true (by omega)) ?_
  refine zl_pureL rfl ?_
  refine zl_nil ?_
  refine zk_seq ?_
  refine zc_false rfl ?_
  refine zc_skip ?_
  refine zk_seq ?_
  refine zc_seq ?_
  refine zc_region ?_
  iterate 2 (refine zl_pureL rfl ?_)
  refine z_fa want_none (by decide) rfl ?_
  refine z_loadB want_none (by decide) rfl (by assumption) (by rfl) ?_
  refine zl_pureL rfl ?_
  refine z_ia want_none (by decide) rfl rfl (by omega) (by omega) ?_
  refine z_loadA (by rfl) (by first | exact want_none | exact want_L rfl) (by decide) rfl (agg3 (cell_no hN1.chg e0) (cell_no hN1.chg e1) (cell_no hN1.chg e2) (by omega)) ?_
  refine zl_call (by first | exact want_none | exact want_L rfl) rfl (by decide) rfl (own_calls (ha.no hN1.chg) (hal _ (getD_mem hi))) ?_
  rintro _ w3 ⟨v3, rfl, ha3, hn3, hC3⟩
  refine ⟨_, rfl, ?_⟩
  obtain ⟨A3, c3, rfl, hc3⟩ := ha3.form
  have hb3 := hb1.no hC3
  refine z_store (by first | exact want_none | exact want_L rfl) rfl rfl rfl (by assumption) (by first | exact Nat.le_refl _ | simp [Value.cells]) (by simp [Value.cells, Value.oneCell']) (fun w4 hU4 => ?_)
  have hb4 : Blk w4 b1 32 [.int .i64 (L.getD i Mark.z).node, .string (L.getD i Mark.z).name, .slice A3 (L.getD i Mark.z).attrs.length c3] := hU4.blk
  refine zl_pureL rfl ?_
  refine zl_nil ?_
  refine zk_seq ?_
  refine zc_ret ?_
  refine zk_retCT (.inr rfl) rfl rfl rfl hb4 rfl ⟨_, rfl, ha3.upd hU4 (by decide), fun k hk => by have := hn3 k hk; have := hN1.size; omega, (hN1.chg.no hC3).upd hU4 (hN1.ge (Chg.refl _ No))⟩
theorem at_out {w : World} {g : Nat} {v : Value} {L : List Mark} (h : IsM w 62 g v L) (hl : L.length ≤ 100000) (i : Int) (hi : i < 0 ∨ (L.length : Int) ≤ i) :
    Calls Try.prog 26 [Value.pointer (some ⟨g, 0, none⟩), .int .i64 i].toArray w fun e w' => e = .returned (.tuple #[.agg #[.int .i64 0, .string ⟨#[]⟩, .slice none 0 0], .bool false]) ∧ Chg w w' No := by
  obtain ⟨A, c, rfl, hc⟩ := h.form
  have hg := h.1
  refine calls_zc (n := 26) (f := 26) (fn := Try.f26) Try.func26 rfl rfl (by simp) ?_
  refine zc_seq ?_
  refine zc_region ?_
  refine z_alloc (by first | exact want_none | exact want_L rfl) (by decide) (fun w1 b1 hN1 => ?_)
  have hb1 : Blk w1 b1 32 [.int .i64 0, .string ⟨#[]⟩, .slice none 0 0] := hN1.blk
  have hg1 := hg.no hN1.chg
  refine zl_pureL rfl ?_
  refine zl_nil ?_
  refine zk_seq ?_
  iterate 2 (refine zc_seq ?_)
  refine zc_region ?_
  refine zl_pureL rfl ?_
  by_cases h0 : i < 0
  · refine z_cmpB (r := true) want_none (by decide) rfl rfl rfl (iff_of_true rfl (by omega)) ?_
    iterate 4 (refine zl_pureL rfl ?_)
    iterate 4 (refine zl_skip rfl ?_)
    refine zl_pureL rfl ?_
    refine zl_nil ?_
    refine zk_seq ?_
    refine zc_true rfl ?_
    refine zc_seq ?_
    refine zc_region ?_
    refine z_buildE #[.int .i64 0, .string ⟨#[]⟩, .slice none 0 0] (by first | exact want_none | exact want_L rfl) (by decide) rfl (by kernel_rfl) ?_
    refine z_store (by first | exact want_none | exact want_L rfl) rfl rfl rfl (by assumption) (by first | exact Nat.le_refl _ | simp [Value.cells]) (by simp [Value.cells, Value.oneCell']) (fun w4 hU4 => ?_)
    have hb4 : Blk w4 b1 32 [.int .i64 0, .string ⟨#[]⟩, .slice none 0 0] := hU4.blk
    refine zl_pureL rfl ?_
    refine zl_nil ?_
    refine zk_seq ?_
    refine zc_ret ?_
    refine zk_ret_then ?_
    exact zk_retCT (.inr rfl) rfl rfl rfl hb4 rfl ⟨rfl, hN1.chg.upd hU4 (hN1.ge (Chg.refl _ No))⟩
  · refine z_cmpB (r := false) want_none (by decide) rfl rfl rfl (iff_of_false Bool.false_ne_true (by omega)) ?_
    iterate 4 (refine zl_pureL rfl ?_)
    refine z_fa (want_L rfl) (by decide) rfl ?_
    refine z_loadB (want_L rfl) (by decide) rfl (by assumption) (by rfl) ?_
    refine z_len (want_L rfl) (by decide) rfl ?_
    refine z_cmpB (r := true) (want_L rfl) (by decide) rfl rfl rfl (iff_of_true rfl (by omega)) ?_
    refine zl_pureL rfl ?_
    refine zl_nil ?_
    refine zk_seq ?_
    refine zc_true rfl ?_
    refine zc_seq ?_
    refine zc_region ?_
    refine z_buildE #[.int .i64 0, .string ⟨#[]⟩, .slice none 0 0] (by first | exact want_none | exact want_L rfl) (by decide) rfl (by kernel_rfl) ?_
    refine z_store (by first | exact want_none | exact want_L rfl) rfl rfl rfl (by assumption) (by first | exact Nat.le_refl _ | simp [Value.cells]) (by simp [Value.cells, Value.oneCell']) (fun w4 hU4 => ?_)
    have hb4 : Blk w4 b1 32 [.int .i64 0, .string ⟨#[]⟩, .slice none 0 0] := hU4.blk
    refine zl_pureL rfl ?_
    refine zl_nil ?_
    refine zk_seq ?_
    refine zc_ret ?_
    refine zk_ret_then ?_
    exact zk_retCT (.inr rfl) rfl rfl rfl hb4 rfl ⟨rfl, hN1.chg.upd hU4 (hN1.ge (Chg.refl _ No))⟩
/-- a list of marks that is told: rows made since a heap of size B -/
def Told (w : World) (B : Nat) (vo : Value) (L : List Mark) : Prop := ∃ ms, Own w 32 3 vo ms.length (encM ms) ∧ All2 (MR w) ms L ∧ NewS B vo ∧ ∀ m ∈ ms, NewS B m.attrs
theorem Told.len {w : World} {B : Nat} {vo : Value} {L : List Mark} (h : Told w B vo L) : ∃ A c, vo = .slice A L.length c ∧ L.length ≤ c := by
  obtain ⟨ms, h1, h2, _⟩ := h
  have := h1.rd.form
  rwa [h2.length] at this
/-- it stays, as long as what is written is older, or of another type -/
theorem Told.chg {w w' : World} {B : Nat} {vo : Value} {L : List Mark} {S : Nat → Prop} (h : Told w B vo L) (hc : Chg w w' S) (hS : ∀ k, S k → k < B) : Told w' B vo L := by
  obtain ⟨ms, h1, h2, h3, h4⟩ := h
  refine ⟨ms, h1.chg hc (fun k hk hs => by have := h3 k hk; have := hS k hs; omega), ?_, h3, h4⟩
  have : ∀ (ms : List MV) (L : List Mark), All2 (MR w) ms L → (∀ m ∈ ms, NewS B m.attrs) → All2 (MR w') ms L := by
    intro ms
    induction ms with
    | nil => intro L h _; cases L <;> simp_all [All2]
    | cons m ms ih =>
      intro L h hN
      cases L with
      | nil => simp [All2] at h
      | cons x L =>
        obtain ⟨⟨g1, g2, g3⟩, h5⟩ := h
        refine ⟨⟨g1, g2, ?_⟩, ih L h5 (fun m hm => hN m (List.mem_cons_of_mem _ hm))⟩
        obtain ⟨a1, a2, A, c, a3, a4, a5⟩ := g3
        refine ⟨a1, a2, A, c, a3, a4, fun hm => ?_⟩
        obtain ⟨b, o, cells, a6, a7, a8⟩ := a5 hm
        refine ⟨b, o, cells, a6, a7.chg hc (fun hs => ?_), a8⟩
        have h6 := hN m (List.mem_cons_self ..) b (by rw [a3, a6]; rfl)
        have := hS b hs; omega
  exact this ms L h2 h4
theorem Told.no {w w' : World} {B : Nat} {vo : Value} {L : List Mark} (h : Told w B vo L) (hc : Chg w w' No) : Told w' B vo L := h.chg hc (fun _ h => h.elim)
set_option maxHeartbeats 1000000 in
theorem all_calls {w : World} {g : Nat} {v : Value} {L : List Mark} (h : IsM w 62 g v L) (hl : L.length ≤ 100000) (hal : ∀ m ∈ L, m.attrs.length ≤ 100000) :
    Calls Try.prog 22 [Value.pointer (some ⟨g, 0, none⟩)].toArray w fun e w' => ∃ vo, e = .returned vo ∧ Told w' w.heap.size vo L ∧ Chg w w' No := by
  obtain ⟨A, c, rfl, hc⟩ := h.form
  have hg := h.1
  refine calls_zc (n := 22) (f := 22) (fn := Try.f22) Try.func22 rfl rfl (by simp) ?_
  refine zc_seq ?_
  refine zc_region ?_
  refine zl_pureL rfl ?_
  refine zl_nil ?_
  refine zk_seq ?_
  refine zc_seq ?_
  refine zc_region ?_
  refine zl_pureL rfl ?_
  refine zl_nil ?_
  refine zk_seq ?_
  iterate 2 (refine zc_seq ?_)
  refine zc_region ?_
  iterate 2 (refine zl_pureL rfl ?_)
  refine z_fa want_none (by decide) rfl ?_
  refine z_loadB want_none (by decide) rfl (by assumption) (by rfl) ?_
  refine z_len want_none (by decide) rfl ?_
  refine zl_pureL rfl ?_
  refine zl_nil ?_
  refine zk_seq ?_
  refine zc_block ?_
  refine zc_loopW (ι := Nat × Value) (fun k u => [(3, k.2), (9, .slice A L.length c), (10, .int .i64 L.length), (11, .int .i64 k.1)])
    (fun k u => k.1 ≤ L.length ∧ Chg w u No ∧ Told u w.heap.size k.2 (L.take k.1)) (fun k u => L.length - k.1) (0, .slice none 0 0) ⟨Nat.zero_le _, Chg.refl _ _, [], Own.nil, trivial, ?_, ?_⟩ ?_ ?_
  · intro k hk; cases hk
  · intro m hm; cases hm
  · exact ⟨rfl, rfl, rfl, rfl, trivial⟩
  rintro ⟨k, vo⟩ w1 ⟨hk, hC, hT⟩
  dsimp only at hk hC hT
  by_cases hlt : k < L.length
  · obtain ⟨b, c', A', hv, e0, e1, e2, ha⟩ := (h.no hC).at_ k hlt
    cases hv
    obtain ⟨A2, c2, rfl, _⟩ := ha.form
    refine zc_seq ?_
    refine zc_region ?_
    refine z_cmpB (r := true) want_none (by decide) rfl rfl rfl (iff_of_true rfl (by omega)) ?_
    refine zl_nil ?_
    refine zk_seq ?_
    refine zc_seq ?_
    refine zc_true rfl ?_
    refine zc_skip ?_
    refine zk_seq ?_
    refine zc_seq ?_
    refine zc_block ?_
    refine zc_seq ?_
    refine zc_region ?_
    refine z_ia want_none (by decide) rfl rfl (by omega) (by omega) ?_
    refine z_loadA (by rfl) (by first | exact want_none | exact want_L rfl) (by decide) rfl (agg3 e0 e1 e2 (by omega)) ?_
    refine z_alloc (by first | exact want_none | exact want_L rfl) (by decide) (fun w2 b2 hN => ?_)
    have hNb := hN.blk
    skip
    refine z_store (by first | exact want_none | exact want_L rfl) rfl rfl rfl (by assumption) (by first | exact Nat.le_refl _ | simp [Value.cells]) (by simp [Value.cells, Value.oneCell']) (fun w3 hU => ?_)
    have hC3 := (hC.new hN).upd hU (hN.ge hC)
    have hC13 := hN.chg.upd hU (hN.ge (Chg.refl _ No))
    have hb2 : Blk w3 b2 32 [.int .i64 (L.getD k Mark.z).node, .string (L.getD k Mark.z).name, .slice A2 (L.getD k Mark.z).attrs.length c2] := hU.blk
    refine zl_nil ?_
    refine zk_seq ?_
    refine zc_region ?_
    refine zl_pureL rfl ?_
    refine z_loadAB want_none (by decide) rfl (by assumption) (by rfl) ?_
    refine zl_call (by first | exact want_none | exact want_L rfl) rfl (by decide) rfl (own_calls (ha.no hC13) (hal _ (getD_mem hlt))) ?_
    rintro _ w4 ⟨v4, rfl, ha4, hn4, hC4⟩
    refine ⟨_, rfl, ?_⟩
    obtain ⟨A4, c4, rfl, hc4⟩ := ha4.form
    refine z_bs1 (by first | exact want_none | exact want_L rfl) (by decide) rfl (by rfl) (by rfl) (by decide) (by decide) (fun w5 b5 hN5 => ?_)
    have hC15 := (hC13.no hC4).new hN5
    obtain ⟨ms, hO, hA, hn1, hn2⟩ := hT.no hC15
    have hlen := hA.length
    have hx : MR w4 ⟨(L.getD k Mark.z).node, (L.getD k Mark.z).name, _⟩ (L.getD k Mark.z) := ⟨rfl, rfl, ha4⟩
    have hkl : (L.take k).length = k := by simp; omega
    refine z_appendO (by rfl) (by decide) (by first | exact want_none | exact want_L rfl) (by decide) rfl rfl hO (RdS.mark hx hN5) (by omega) (by omega) (fun v6 w6 hO6 hC6 hr6 => ?_)
    have hC16 : Chg w w6 No := (hC.no hC15).trans hC6 (fun i hi he => by have := hn1 i he; omega)
    have hK := (K47.own hO (by decide) hC6)
    refine zl_pureL rfl ?_
    refine zl_nil ?_
    refine zk_norm_block ?_
    refine zk_seq ?_
    refine zc_region ?_
    refine z_add want_none (by decide) rfl rfl (by omega) (by omega) ?_
    refine zl_pureL rfl ?_
    refine zl_nil ?_
    refine zk_loopW (k + 1, v6) ⟨by omega, hC16, ms ++ [⟨(L.getD k Mark.z).node, (L.getD k Mark.z).name, .slice A4 (L.getD k Mark.z).attrs.length c4⟩], ?_, ?_, ?_, ?_⟩ (by simp; omega) ⟨rfl, rfl, rfl, get_int rfl (by simp), trivial⟩
    · rw [encM_app]; simpa using hO6
    · rw [List.take_succ_eq_append_getElem hlt]
      refine All2.append (all2_keep hA hK) (All2.one ?_)
      have := hx.keep ((K47.no hN5.chg).trans hK)
      rw [List.getD_eq_getElem?_getD, List.getElem?_eq_getElem hlt] at this
      simpa [List.getElem?_eq_getElem hlt] using this
    · intro j hj
      rcases hr6 with h1 | ⟨q, h1, h2⟩
      · exact hn1 j (h1 ▸ hj)
      · rw [hj] at h1; cases h1; have := (hC.no hC15).size; omega
    · intro m hm
      rcases List.mem_append.1 hm with hm | hm
      · exact hn2 m hm
      · simp only [List.mem_singleton] at hm; subst hm
        intro j hj; have := hn4 j hj; have := hC3.size; omega
  · obtain rfl : k = L.length := by omega
    refine zc_seq ?_
    refine zc_region ?_
    refine z_cmpB (r := false) want_none (by decide) rfl rfl rfl (iff_of_false Bool.false_ne_true (by omega)) ?_
    refine zl_nil ?_
    refine zk_seq ?_
    refine zc_seq ?_
    refine zc_false rfl ?_
    refine zc_exit ?_
    iterate 2 (refine zk_exit_then ?_)
    refine zk_exit_block ?_
    refine zk_seq ?_
    refine zc_seq ?_
    refine zc_region ?_
    iterate 2 (refine zl_pureL rfl ?_)
    refine zl_nil ?_
    refine zk_seq ?_
    refine zc_ret ?_
    rw [List.take_length] at hT
    exact zk_ret1 (.inr rfl) rfl rfl ⟨_, rfl, hT, hC⟩
end Go.Proofs.Ytaagolhokejflaa.M
