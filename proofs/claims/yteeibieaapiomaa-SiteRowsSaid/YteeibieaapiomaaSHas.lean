import Derived.Test.YteeibieaapiomaaSWall
/- A Site: Has, lastOf, Is. -/
namespace Go.Proofs.Yteeibieaapiomaa.D
open Go Go.Z Go.Proofs
set_option linter.unusedVariables false
def hasF (E : List Ent) (sc : Int) (ns : List ByteArray) : Nat → Bool
  | 0 => false
  | k + 1 => if isE (E.getD (k + 1) en0) ns = true then true else if wallW sc (E.getD (k + 1) en0).sp (E.getD (k + 1) en0).nm = true then false else hasF E sc ns k
def lastF (E : List Ent) (ns : List ByteArray) : Nat → Nat
  | 0 => 0
  | k + 1 => if isE (E.getD (k + 1) en0) ns = true then k + 1 else lastF E ns k
theorem hasF_succ (E : List Ent) (sc : Int) (ns : List ByteArray) (k : Nat) : hasF E sc ns (k + 1) = if isE (E.getD (k + 1) en0) ns = true then true else if wallW sc (E.getD (k + 1) en0).sp (E.getD (k + 1) en0).nm = true then false else hasF E sc ns k := rfl
theorem lastF_succ (E : List Ent) (ns : List ByteArray) (k : Nat) : lastF E ns (k + 1) = if isE (E.getD (k + 1) en0) ns = true then k + 1 else lastF E ns k := rfl
theorem lastF_le (E : List Ent) (ns : List ByteArray) : ∀ k, lastF E ns k ≤ k
  | 0 => Nat.le_refl _
  | k + 1 => by
    unfold lastF
    split
    · exact Nat.le_refl _
    · have := lastF_le E ns k; omega
def isNd (N : List ND) (n : Int) (ns : List ByteArray) : Bool := decide (n ≠ 0 ∧ (nodeOf N n).kind = 1 ∧ (nodeOf N n).space = 1) && memB (nodeOf N n).name ns
section
variable {w w' : World} {s : Nat} {q : SP} {E : List Ent} {I : List Bool} {m : ByteArray → Int} {N : List ND} {f : Bool}
set_option maxHeartbeats 8000000 in
theorem sHas_calls (h : IsS w s q E I m N f) {v : Value} {l : List ByteArray} (hN : NS w v l) (hl : l.length ≤ 1000000) (hE0 : 0 < E.length) (hE : E.length ≤ 1000000) (sc : Int) (hinv : ¬ someM m l → hasF E sc l (E.length - 1) = false) :
    Calls Try.prog 35 [.pointer (some ⟨s, 0, none⟩), .int .i64 sc, v].toArray w fun x w' => x = .returned (.bool (hasF E sc l (E.length - 1))) ∧ Chg w w' No := by
  obtain ⟨A, c, rfl, hc⟩ := hN.form
  have hb := h.blk
  refine calls_zc (n := 39) (f := 35) (fn := Try.f35) Try.func35 rfl rfl (by simp) ?_
  refine zc_seq ?_
  refine zc_region ?_
  refine zl_pureL rfl ?_
  refine zl_nil ?_
  refine zk_seq ?_
  iterate 2 (refine zc_seq ?_)
  refine zc_region ?_
  iterate 2 (refine zl_pureL rfl ?_)
  refine zl_call (by first | exact want_none | exact want_L rfl) rfl (by decide) rfl (sSome_calls h hN hl) ?_
  rintro _ u ⟨⟨q1, rfl, hq1⟩, hu⟩
  obtain rfl := hu.symm
  refine ⟨_, rfl, ?_⟩
  cases q1
  · rw [hinv (fun hh => absurd (hq1.2 hh) Bool.false_ne_true)]
    refine zl_pureL rfl ?_
    refine zl_nil ?_
    refine zk_seq ?_
    refine zc_true rfl ?_
    refine zc_seq ?_
    refine zc_region ?_
    refine zl_pureL rfl ?_
    refine zl_nil ?_
    refine zk_seq ?_
    refine zc_ret ?_
    refine zk_ret_then ?_
    exact zk_ret1 (.inr rfl) rfl rfl ⟨rfl, Chg.refl _ _⟩
  obtain ⟨Ao, co, hvo, hco⟩ := h.own.rd.form
  rw [hvo] at hb
  refine zl_pureL rfl ?_
  refine zl_nil ?_
  refine zk_seq ?_
  refine zc_false rfl ?_
  refine zc_skip ?_
  refine zk_seq ?_
  iterate 2 (refine zc_seq ?_)
  refine zc_region ?_
  iterate 2 (refine zl_pureL rfl ?_)
  refine z_fa want_none (by decide) rfl ?_
  refine z_loadB want_none (by decide) rfl (by assumption) (by rfl) ?_
  refine z_len want_none (by decide) rfl ?_
  refine z_sub want_none (by decide) rfl rfl (by omega) (by omega) ?_
  refine zl_pureL rfl ?_
  refine zl_nil ?_
  refine zk_seq ?_
  refine zc_block ?_
  refine zc_loopW (ι := Nat) (fun k u => [(0, .pointer (some ⟨s, 0, none⟩)), (1, .int .i64 sc), (2, .slice A l.length c), (7, .int .i64 k)]) (fun k u => k ≤ E.length - 1 ∧ hasF E sc l k = hasF E sc l (E.length - 1) ∧ Chg w u No) (fun k u => k) (E.length - 1) ⟨Nat.le_refl _, rfl, Chg.refl _ _⟩ ?_ ?_
  · exact ⟨rfl, rfl, rfl, get_int rfl (by omega), trivial⟩
  rintro k u ⟨hk, hf, hC⟩
  rw [← hf]
  cases k with
  | zero =>
    iterate 2 (refine zc_seq ?_)
    refine zc_region ?_
    refine zl_pureL rfl ?_
    refine z_cmpB (r := false) want_none (by decide) rfl rfl rfl (iff_of_false Bool.false_ne_true (by omega)) ?_
    refine zl_nil ?_
    refine zk_seq ?_
    refine zc_false rfl ?_
    refine zc_exit ?_
    iterate 2 (refine zk_exit_then ?_)
    refine zk_exit_block ?_
    refine zk_seq ?_
    refine zc_seq ?_
    refine zc_region ?_
    refine zl_pureL rfl ?_
    refine zl_nil ?_
    refine zk_seq ?_
    refine zc_ret ?_
    exact zk_ret1 (.inr rfl) rfl rfl ⟨rfl, hC⟩
  | succ k =>
    obtain ⟨b, o, c', hv, h0, h1, h2⟩ := (h.no hC).at_ (k + 1) (by omega)
    rw [hvo] at hv
    cases hv
    have hbu := hb.no hC
    rw [hasF_succ]
    obtain ⟨en, hen⟩ : ∃ en, en = E.getD (k + 1) en0 := ⟨_, rfl⟩
    rw [← hen] at h0 h1 h2 ⊢
    iterate 2 (refine zc_seq ?_)
    refine zc_region ?_
    refine zl_pureL rfl ?_
    refine z_cmpB (r := true) want_none (by decide) rfl rfl rfl (iff_of_true rfl (by omega)) ?_
    refine zl_nil ?_
    refine zk_seq ?_
    refine zc_true rfl ?_
    refine zc_skip ?_
    refine zk_seq ?_
    refine zc_seq ?_
    refine zc_block ?_
    refine zc_seq ?_
    refine zc_region ?_
    iterate 2 (refine zl_pureL rfl ?_)
    refine z_fa want_none (by decide) rfl ?_
    refine z_loadB want_none (by decide) rfl (by assumption) (by rfl) ?_
    refine zl_pureL rfl ?_
    refine z_ia want_none (by decide) rfl rfl (by omega) (by omega) ?_
    refine z_loadA (by rfl) (by first | exact want_none | exact want_L rfl) (by decide) rfl (agg3 h0 h1 h2 (by omega)) ?_
    refine z_alloc (by first | exact want_none | exact want_L rfl) (by decide) (fun u1 b1 hN1 => ?_)
    have hb1 : Blk u1 b1 74 [.int .i64 0, .int .i64 0, .string ⟨#[]⟩] := hN1.blk
    refine z_store (by first | exact want_none | exact want_L rfl) rfl rfl rfl (by assumption) (by first | exact Nat.le_refl _ | simp [Value.cells]) (by simp [Value.cells, Value.oneCell']) (fun u2 hU2 => ?_)
    have hb2 : Blk u2 b1 74 [.int .i64 en.n, .int .i64 en.sp, .string en.nm] := hU2.blk
    have hC2 : Chg u u2 No := hN1.chg.upd hU2 (hN1.ge (Chg.refl _ No))
    refine zl_nil ?_
    refine zk_seq ?_
    iterate 2 (refine zc_seq ?_)
    refine zc_region ?_
    refine z_loadAB want_none (by decide) rfl (by assumption) (by rfl) ?_
    refine zl_pureL rfl ?_
    refine zl_call (by first | exact want_none | exact want_L rfl) rfl (by decide) rfl (sEis_calls (hN.no (hC.no hC2)) hl en) ?_
    rintro _ u3 ⟨rfl, hC3⟩
    refine ⟨_, rfl, ?_⟩
    have hb3 := hb2.no hC3
    cases hi : isE en l
    · rw [if_neg Bool.false_ne_true]
      refine zl_nil ?_
      refine zk_seq ?_
      refine zc_false rfl ?_
      refine zc_skip ?_
      refine zk_seq ?_
      refine zc_seq ?_
      refine zc_region ?_
      refine zl_pureL rfl ?_
      refine z_fa want_none (by decide) rfl ?_
      refine z_loadB want_none (by decide) rfl (by assumption) (by rfl) ?_
      refine z_fa want_none (by decide) rfl ?_
      refine z_loadB want_none (by decide) rfl (by assumption) (by rfl) ?_
      refine zl_call (by first | exact want_none | exact want_L rfl) rfl (by decide) rfl (sWall_calls sc en.sp en.nm) ?_
      rintro _ u ⟨rfl, hu⟩
      obtain rfl := hu.symm
      refine ⟨_, rfl, ?_⟩
      cases hw : wallW sc en.sp en.nm
      · rw [if_neg Bool.false_ne_true]
        refine zl_nil ?_
        refine zk_seq ?_
        refine zc_false rfl ?_
        refine zc_skip ?_
        refine zk_norm_block ?_
        refine zk_seq ?_
        refine zc_region ?_
        refine zl_pureL rfl ?_
        refine z_sub want_none (by decide) rfl rfl (by omega) (by omega) ?_
        refine zl_pureL rfl ?_
        refine zl_nil ?_
        refine zk_loopW k ⟨by omega, ?_, (hC.no hC2).no hC3⟩ (by omega) ⟨rfl, rfl, rfl, get_int rfl (by omega), trivial⟩
        first | rfl | (rw [← hf, hasF_succ, ← hen, hi, if_neg Bool.false_ne_true, hw, if_neg Bool.false_ne_true])
      · rw [if_pos rfl]
        refine zl_nil ?_
        refine zk_seq ?_
        refine zc_true rfl ?_
        refine zc_seq ?_
        refine zc_region ?_
        refine zl_pureL rfl ?_
        refine zl_nil ?_
        refine zk_seq ?_
        refine zc_ret ?_
        refine zk_ret_block ?_
        iterate 2 (refine zk_ret_then ?_)
        refine zk_ret_block ?_
        refine zk_ret_then ?_
        exact zk_ret1 (.inr rfl) rfl rfl ⟨rfl, (hC.no hC2).no hC3⟩
    · rw [if_pos rfl]
      refine zl_nil ?_
      refine zk_seq ?_
      refine zc_true rfl ?_
      refine zc_seq ?_
      refine zc_region ?_
      refine zl_pureL rfl ?_
      refine zl_nil ?_
      refine zk_seq ?_
      refine zc_ret ?_
      refine zk_ret_then ?_
      refine zk_ret_block ?_
      iterate 2 (refine zk_ret_then ?_)
      refine zk_ret_block ?_
      refine zk_ret_then ?_
      exact zk_ret1 (.inr rfl) rfl rfl ⟨rfl, (hC.no hC2).no hC3⟩
set_option maxHeartbeats 8000000 in
theorem sLastOf_calls (h : IsS w s q E I m N f) {v : Value} {l : List ByteArray} (hN : NS w v l) (hl : l.length ≤ 1000000) (hE0 : 0 < E.length) (hE : E.length ≤ 1000000) (hinv : ¬ someM m l → lastF E l (E.length - 1) = 0) :
    Calls Try.prog 82 [.pointer (some ⟨s, 0, none⟩), v].toArray w fun x w' => x = .returned (.int .i64 (lastF E l (E.length - 1))) ∧ Chg w w' No := by
  obtain ⟨A, c, rfl, hc⟩ := hN.form
  have hb := h.blk
  refine calls_zc (n := 33) (f := 82) (fn := Try.f82) Try.func82 rfl rfl (by simp) ?_
  refine zc_seq ?_
  refine zc_region ?_
  refine zl_pureL rfl ?_
  refine zl_nil ?_
  refine zk_seq ?_
  iterate 2 (refine zc_seq ?_)
  refine zc_region ?_
  iterate 2 (refine zl_pureL rfl ?_)
  refine zl_call (by first | exact want_none | exact want_L rfl) rfl (by decide) rfl (sSome_calls h hN hl) ?_
  rintro _ u ⟨⟨q1, rfl, hq1⟩, hu⟩
  obtain rfl := hu.symm
  refine ⟨_, rfl, ?_⟩
  cases q1
  · rw [hinv (fun hh => absurd (hq1.2 hh) Bool.false_ne_true)]
    refine zl_pureL rfl ?_
    refine zl_nil ?_
    refine zk_seq ?_
    refine zc_true rfl ?_
    refine zc_seq ?_
    refine zc_region ?_
    refine zl_pureL rfl ?_
    refine zl_nil ?_
    refine zk_seq ?_
    refine zc_ret ?_
    refine zk_ret_then ?_
    exact zk_ret1 (.inr rfl) rfl rfl ⟨rfl, Chg.refl _ _⟩
  obtain ⟨Ao, co, hvo, hco⟩ := h.own.rd.form
  rw [hvo] at hb
  refine zl_pureL rfl ?_
  refine zl_nil ?_
  refine zk_seq ?_
  refine zc_false rfl ?_
  refine zc_skip ?_
  refine zk_seq ?_
  refine zc_seq ?_
  refine zc_region ?_
  iterate 2 (refine zl_pureL rfl ?_)
  refine z_fa want_none (by decide) rfl ?_
  refine z_loadB want_none (by decide) rfl (by assumption) (by rfl) ?_
  refine z_len want_none (by decide) rfl ?_
  refine z_sub want_none (by decide) rfl rfl (by omega) (by omega) ?_
  refine zl_pureL rfl ?_
  refine zl_nil ?_
  refine zk_seq ?_
  refine zc_seq ?_
  refine zc_block ?_
  refine zc_loopW (ι := Nat) (fun k u => [(0, .pointer (some ⟨s, 0, none⟩)), (1, .slice A l.length c), (5, .int .i64 k)]) (fun k u => k ≤ E.length - 1 ∧ lastF E l k = lastF E l (E.length - 1) ∧ Chg w u No) (fun k u => k) (E.length - 1) ⟨Nat.le_refl _, rfl, Chg.refl _ _⟩ ?_ ?_
  · exact ⟨rfl, rfl, get_int rfl (by omega), trivial⟩
  rintro k u ⟨hk, hf, hC⟩
  rw [← hf]
  cases k with
  | zero =>
    iterate 2 (refine zc_seq ?_)
    refine zc_region ?_
    refine zl_pureL rfl ?_
    refine z_cmpB (r := false) want_none (by decide) rfl rfl rfl (iff_of_false Bool.false_ne_true (by omega)) ?_
    iterate 3 (refine zl_pureL rfl ?_)
    iterate 2 (refine zl_skip rfl ?_)
    refine zl_pureL rfl ?_
    iterate 2 (refine zl_skip rfl ?_)
    refine zl_pureL rfl ?_
    refine zl_skip rfl ?_
    iterate 2 (refine zl_pureL rfl ?_)
    refine zl_nil ?_
    refine zk_seq ?_
    refine zc_false rfl ?_
    refine zc_exit ?_
    iterate 2 (refine zk_exit_then ?_)
    refine zk_exit_block ?_
    refine zk_seq ?_
    refine zc_seq ?_
    refine zc_region ?_
    iterate 2 (refine zl_pureL rfl ?_)
    refine zl_nil ?_
    refine zk_seq ?_
    refine zc_ret ?_
    exact zk_ret1 (.inr rfl) rfl rfl ⟨rfl, hC⟩
  | succ k =>
    obtain ⟨b, o, c', hv, h0, h1, h2⟩ := (h.no hC).at_ (k + 1) (by omega)
    rw [hvo] at hv
    cases hv
    have hbu := hb.no hC
    rw [lastF_succ]
    obtain ⟨en, hen⟩ : ∃ en, en = E.getD (k + 1) en0 := ⟨_, rfl⟩
    rw [← hen] at h0 h1 h2 ⊢
    iterate 2 (refine zc_seq ?_)
    refine zc_region ?_
    refine zl_pureL rfl ?_
    refine z_cmpB (r := true) want_none (by decide) rfl rfl rfl (iff_of_true rfl (by omega)) ?_
    iterate 3 (refine zl_pureL rfl ?_)
    refine z_fa (want_L rfl) (by decide) rfl ?_
    refine z_loadB (want_L rfl) (by decide) rfl (by assumption) (by rfl) ?_
    refine zl_pureL rfl ?_
    refine z_ia (want_L rfl) (by decide) rfl rfl (by omega) (by omega) ?_
    refine z_loadA (by rfl) (by first | exact want_none | exact want_L rfl) (by decide) rfl (agg3 h0 h1 h2 (by omega)) ?_
    refine zl_pureL rfl ?_
    refine zl_call (by first | exact want_none | exact want_L rfl) rfl (by decide) rfl (sEis_calls (hN.no hC) hl en) ?_
    rintro _ u3 ⟨rfl, hC3⟩
    refine ⟨_, rfl, ?_⟩
    cases hi : isE en l
    · rw [if_neg Bool.false_ne_true]
      iterate 2 (refine zl_pureL rfl ?_)
      refine zl_nil ?_
      refine zk_seq ?_
      refine zc_true rfl ?_
      refine zc_skip ?_
      refine zk_seq ?_
      refine zc_block ?_
      refine zc_region ?_
      refine zl_pureL rfl ?_
      refine z_sub want_none (by decide) rfl rfl (by omega) (by omega) ?_
      refine zl_pureL rfl ?_
      refine zl_nil ?_
      refine zk_norm_block ?_
      refine zk_loopW k ⟨by omega, ?_, hC.no hC3⟩ (by omega) ⟨rfl, rfl, get_int rfl (by omega), trivial⟩
      first | rfl | (rw [← hf, lastF_succ, ← hen, hi, if_neg Bool.false_ne_true])
    · rw [if_pos rfl]
      iterate 2 (refine zl_pureL rfl ?_)
      refine zl_nil ?_
      refine zk_seq ?_
      refine zc_false rfl ?_
      refine zc_exit ?_
      iterate 2 (refine zk_exit_then ?_)
      refine zk_exit_block ?_
      refine zk_seq ?_
      refine zc_seq ?_
      refine zc_region ?_
      iterate 2 (refine zl_pureL rfl ?_)
      refine zl_nil ?_
      refine zk_seq ?_
      refine zc_ret ?_
      exact zk_ret1 (.inr rfl) rfl rfl ⟨rfl, hC.no hC3⟩
set_option maxHeartbeats 8000000 in
theorem sIsN_calls (h : IsS w s q E I m N f) (hB : BigT N) {v : Value} {l : List ByteArray} (hN : NS w v l) (hl : l.length ≤ 1000000) (n : Int) :
    Calls Try.prog 81 [.pointer (some ⟨s, 0, none⟩), .int .i64 n, v].toArray w fun x w' => x = .returned (.bool (isNd N n l)) ∧ Chg w w' No := by
  obtain ⟨A, c, rfl, hc⟩ := hN.form
  have hb := h.blk
  refine calls_zc (n := 32) (f := 81) (fn := Try.f81) Try.func81 rfl rfl (by simp) ?_
  refine zc_seq ?_
  refine zc_region ?_
  refine zl_pureL rfl ?_
  refine zl_nil ?_
  refine zk_seq ?_
  refine zc_seq ?_
  refine zc_region ?_
  iterate 2 (refine zl_pureL rfl ?_)
  refine z_fa want_none (by decide) rfl ?_
  refine z_loadB want_none (by decide) rfl (by assumption) (by rfl) ?_
  refine zl_pureL rfl ?_
  refine zl_call (by first | exact want_none | exact want_L rfl) rfl (by decide) rfl (node_calls h.doc hB n) ?_
  rintro _ w2 ⟨va, rfl, hA2, _, hX2⟩
  refine ⟨_, rfl, ?_⟩
  obtain ⟨A4, c4, rfl, _⟩ := hA2.form
  skip
  refine z_alloc (by first | exact want_none | exact want_L rfl) (by decide) (fun w3 b3 hN3 => ?_)
  have hb3 : Blk w3 b3 52 [.int .i64 0, .int .i64 0, .string ⟨#[]⟩, .slice none 0 0, .string ⟨#[]⟩, .int .i64 0, .slice none 0 0] := hN3.blk
  refine z_store (by first | exact want_none | exact want_L rfl) rfl rfl rfl (by assumption) (by first | exact Nat.le_refl _ | simp [Value.cells]) (by simp [Value.cells, Value.oneCell']) (fun w4 hU4 => ?_)
  have hb4 : Blk w4 b3 52 [.int .i64 (nodeOf N n).kind, .int .i64 (nodeOf N n).space, .string (nodeOf N n).name, .slice A4 (nodeOf N n).attrs.length c4, .string (bs (nodeOf N n).text), .int .i64 0, .slice none 0 0] := hU4.blk
  have hC4 : Chg w w4 No := (hX2.no hN3.chg).upd hU4 (by have := hN3.at_; have := hX2.size; omega)
  unfold isNd
  obtain ⟨x, hx⟩ : ∃ x, x = nodeOf N n := ⟨_, rfl⟩
  rw [← hx] at hb4 ⊢
  by_cases h0 : n = 0
  · rw [decide_eq_false (show ¬ (n ≠ 0 ∧ x.kind = 1 ∧ x.space = 1) from fun hh => hh.1 h0), Bool.false_and]
    refine zl_nil ?_
    refine zk_seq ?_
    refine zc_seq ?_
    refine zc_region ?_
    refine zl_pureL rfl ?_
    refine z_cmpB (r := false) want_none (by decide) rfl rfl rfl (iff_of_false Bool.false_ne_true (by omega)) ?_
    refine zl_pureL rfl ?_
    iterate 3 (refine zl_skip rfl ?_)
    iterate 2 (refine zl_pureL rfl ?_)
    iterate 3 (refine zl_skip rfl ?_)
    iterate 3 (refine zl_pureL rfl ?_)
    iterate 3 (refine zl_skip rfl ?_)
    iterate 2 (refine zl_pureL rfl ?_)
    refine zl_nil ?_
    refine zk_seq ?_
    refine zc_ret ?_
    exact zk_ret1 (.inr rfl) rfl rfl ⟨rfl, hC4⟩
  by_cases h1 : x.kind = 1
  rotate_left
  · rw [decide_eq_false (show ¬ (n ≠ 0 ∧ x.kind = 1 ∧ x.space = 1) from fun hh => h1 hh.2.1), Bool.false_and]
    refine zl_nil ?_
    refine zk_seq ?_
    refine zc_seq ?_
    refine zc_region ?_
    refine zl_pureL rfl ?_
    refine z_cmpB (r := true) want_none (by decide) rfl rfl rfl (iff_of_true rfl (by omega)) ?_
    refine zl_pureL rfl ?_
    refine z_fa (want_L rfl) (by decide) rfl ?_
    refine z_loadB (want_L rfl) (by decide) rfl (by assumption) (by rfl) ?_
    refine z_cmpB (r := false) (want_L rfl) (by decide) rfl rfl rfl (iff_of_false Bool.false_ne_true (by omega)) ?_
    iterate 2 (refine zl_pureL rfl ?_)
    iterate 3 (refine zl_skip rfl ?_)
    iterate 3 (refine zl_pureL rfl ?_)
    iterate 3 (refine zl_skip rfl ?_)
    iterate 2 (refine zl_pureL rfl ?_)
    refine zl_nil ?_
    refine zk_seq ?_
    refine zc_ret ?_
    exact zk_ret1 (.inr rfl) rfl rfl ⟨rfl, hC4⟩
  by_cases h2 : x.space = 1
  rotate_left
  · rw [decide_eq_false (show ¬ (n ≠ 0 ∧ x.kind = 1 ∧ x.space = 1) from fun hh => h2 hh.2.2), Bool.false_and]
    refine zl_nil ?_
    refine zk_seq ?_
    refine zc_seq ?_
    refine zc_region ?_
    refine zl_pureL rfl ?_
    refine z_cmpB (r := true) want_none (by decide) rfl rfl rfl (iff_of_true rfl (by omega)) ?_
    refine zl_pureL rfl ?_
    refine z_fa (want_L rfl) (by decide) rfl ?_
    refine z_loadB (want_L rfl) (by decide) rfl (by assumption) (by rfl) ?_
    refine z_cmpB (r := true) (want_L rfl) (by decide) rfl rfl rfl (iff_of_true rfl (by omega)) ?_
    iterate 2 (refine zl_pureL rfl ?_)
    refine z_fa (want_L rfl) (by decide) rfl ?_
    refine z_loadB (want_L rfl) (by decide) rfl (by assumption) (by rfl) ?_
    refine z_cmpB (r := false) (want_L rfl) (by decide) rfl rfl rfl (iff_of_false Bool.false_ne_true (by omega)) ?_
    iterate 3 (refine zl_pureL rfl ?_)
    iterate 3 (refine zl_skip rfl ?_)
    iterate 2 (refine zl_pureL rfl ?_)
    refine zl_nil ?_
    refine zk_seq ?_
    refine zc_ret ?_
    exact zk_ret1 (.inr rfl) rfl rfl ⟨rfl, hC4⟩
  rw [decide_eq_true (show n ≠ 0 ∧ x.kind = 1 ∧ x.space = 1 from ⟨h0, h1, h2⟩), Bool.true_and]
  refine zl_nil ?_
  refine zk_seq ?_
  refine zc_seq ?_
  refine zc_region ?_
  refine zl_pureL rfl ?_
  refine z_cmpB (r := true) want_none (by decide) rfl rfl rfl (iff_of_true rfl (by omega)) ?_
  refine zl_pureL rfl ?_
  refine z_fa (want_L rfl) (by decide) rfl ?_
  refine z_loadB (want_L rfl) (by decide) rfl (by assumption) (by rfl) ?_
  refine z_cmpB (r := true) (want_L rfl) (by decide) rfl rfl rfl (iff_of_true rfl (by omega)) ?_
  iterate 2 (refine zl_pureL rfl ?_)
  refine z_fa (want_L rfl) (by decide) rfl ?_
  refine z_loadB (want_L rfl) (by decide) rfl (by assumption) (by rfl) ?_
  refine z_cmpB (r := true) (want_L rfl) (by decide) rfl rfl rfl (iff_of_true rfl (by omega)) ?_
  iterate 3 (refine zl_pureL rfl ?_)
  refine z_fa (want_L rfl) (by decide) rfl ?_
  refine z_loadB (want_L rfl) (by decide) rfl (by assumption) (by rfl) ?_
  refine zl_call (by first | exact want_none | exact want_L rfl) rfl (by decide) rfl (sContains_calls (hN.no hC4) hl x.name) ?_
  rintro _ u ⟨rfl, hu⟩
  obtain rfl := hu.symm
  refine ⟨_, rfl, ?_⟩
  cases memB x.name l
  · iterate 2 (refine zl_pureL rfl ?_)
    refine zl_nil ?_
    refine zk_seq ?_
    refine zc_ret ?_
    exact zk_ret1 (.inr rfl) rfl rfl ⟨rfl, hC4⟩
  · iterate 2 (refine zl_pureL rfl ?_)
    refine zl_nil ?_
    refine zk_seq ?_
    refine zc_ret ?_
    exact zk_ret1 (.inr rfl) rfl rfl ⟨rfl, hC4⟩
end
end Go.Proofs.Yteeibieaapiomaa.D
