import Derived.Test.YtjiehalanklapaaDSound
/- Sound, the program's and the document's. -/
namespace Go.Proofs.Ytjiehalanklapaa.D
open Go Go.Z Go.Proofs
set_option linter.unusedVariables false
def e0 : ByteArray := ⟨#[]⟩
def sound1 (x : Hd) (k : NT) : Prop :=
  (x.kind = 1 ∧ 1 ≤ x.space ∧ x.space ≤ 3 ∧ x.name ≠ ⟨#[]⟩ ∧ x.text = ⟨#[]⟩ ∧ x.fr = 0 ∧ ¬ Tw x.attrs) ∨
  (x.kind = 2 ∧ x.space = 0 ∧ x.name = ⟨#[]⟩ ∧ x.attrs.length = 0 ∧ k.len = 0 ∧ x.text ≠ ⟨#[]⟩ ∧ 0 ≤ x.fr) ∨
  (x.kind = 3 ∧ x.space = 0 ∧ x.name = ⟨#[]⟩ ∧ x.attrs.length = 0 ∧ k.len = 0 ∧ x.fr = 0)
def SoundF : Bool → NT → Prop
  | _, .nil => True
  | p, .cons x k r => sound1 x k ∧ SoundF false k ∧ ¬ (p = true ∧ x.kind = 2) ∧ SoundF (decide (x.kind = 2)) r
def prevB (t : NT) : Nat → Bool
  | 0 => false
  | j + 1 => match t.dropN j with
    | .cons x _ _ => decide (x.kind = 2)
    | .nil => false
theorem prevB_succ {t k r : NT} {j : Nat} {x : Hd} (h : t.dropN j = .cons x k r) : prevB t (j + 1) = decide (x.kind = 2) := by
  show (match t.dropN j with | .cons x _ _ => decide (x.kind = 2) | .nil => false) = _
  rw [h]
theorem len0 {k : NT} (h : k.len = 0) : k = .nil := by cases k with | nil => rfl | cons => simp [NT.len] at h
set_option maxHeartbeats 4000000 in
theorem sound1_calls {w : World} {x : Hd} {k : NT} {A K : Value} (hA : AttrS w A x.attrs) (hK : TreeAt w K k) (hal : x.attrs.length ≤ 100000) (hkl : k.len ≤ 100000) :
    Calls Try.prog 54 [.agg #[.int .i64 x.kind, .int .i64 x.space, .string x.name, A, .string x.text, .int .i64 x.fr, K]].toArray w fun e w' => ∃ q, e = .returned (.bool q) ∧ (q = true ↔ sound1 x k) ∧ Chg w w' No := by
  obtain ⟨A2, c2, rfl, _⟩ := hA.form
  obtain ⟨A3, c3, rfl, _⟩ := hK.form
  refine calls_zc (n := 95) (f := 54) (fn := Try.f54) Try.func54 rfl rfl (by simp) ?_
  refine zc_seq ?_
  refine zc_region ?_
  refine z_box (by first | exact want_none | exact want_L rfl) (by decide) rfl (fun w1 b1 hN1 => ?_)
  have hb1 : Blk w1 b1 48 [.int .i64 x.kind, .int .i64 x.space, .string x.name, .slice A2 x.attrs.length c2, .string x.text, .int .i64 x.fr, .slice A3 k.len c3] := hN1.blk
  have hC := hN1.chg
  have no : ∀ {p : Prop}, ¬ p → ((false : Bool) = true ↔ p) := fun h => iff_of_false Bool.false_ne_true h
  by_cases k1 : x.kind = 1
  · by_cases h1 : 1 ≤ x.space
    · by_cases h2 : x.space ≤ 3
      · refine zl_pureL rfl ?_
        refine zl_nil ?_
        refine zk_seq ?_
        iterate 2 (refine zc_seq ?_)
        refine zc_region ?_
        refine z_fa want_none (by decide) rfl ?_
        refine z_loadB want_none (by decide) rfl (by assumption) (by rfl) ?_
        refine zl_nil ?_
        refine zk_seq ?_
        refine zc_block ?_
        refine zc_seq ?_
        refine zc_region ?_
        refine z_cmpB (r := true) want_none (by decide) rfl rfl rfl (iff_of_true rfl (by omega)) ?_
        refine zl_pureL rfl ?_
        refine zl_nil ?_
        refine zk_seq ?_
        refine zc_true rfl ?_
        refine zc_seq ?_
        refine zc_region ?_
        refine z_fa want_none (by decide) rfl ?_
        refine z_loadB want_none (by decide) rfl (by assumption) (by rfl) ?_
        refine z_cmpB (r := true) want_none (by decide) rfl rfl rfl (iff_of_true rfl (by omega)) ?_
        refine zl_pureL rfl ?_
        refine z_fa (want_L rfl) (by decide) rfl ?_
        refine z_loadB (want_L rfl) (by decide) rfl (by assumption) (by rfl) ?_
        refine z_cmpB (r := true) (want_L rfl) (by decide) rfl rfl rfl (iff_of_true rfl (by omega)) ?_
        iterate 2 (refine zl_pureL rfl ?_)
        refine z_fa (want_L rfl) (by decide) rfl ?_
        refine z_loadB (want_L rfl) (by decide) rfl (by assumption) (by rfl) ?_
        refine z_neS (by first | exact want_none | exact want_L rfl) (by decide) rfl rfl (fun hc => ?_) (fun hc => ?_)
        · iterate 2 (refine zl_pureL rfl ?_)
          refine z_fa (want_L rfl) (by decide) rfl ?_
          refine z_loadB (want_L rfl) (by decide) rfl (by assumption) (by rfl) ?_
          refine z_eqS (by first | exact want_none | exact want_L rfl) (by decide) rfl rfl (fun hc => ?_) (fun hc => ?_)
          · by_cases h5 : x.fr = 0
            · iterate 2 (refine zl_pureL rfl ?_)
              refine z_fa (want_L rfl) (by decide) rfl ?_
              refine z_loadB (want_L rfl) (by decide) rfl (by assumption) (by rfl) ?_
              refine z_cmpB (r := true) (want_L rfl) (by decide) rfl rfl rfl (iff_of_true rfl (by omega)) ?_
              iterate 2 (refine zl_pureL rfl ?_)
              refine z_fa (want_L rfl) (by decide) rfl ?_
              refine z_loadB (want_L rfl) (by decide) rfl (by assumption) (by rfl) ?_
              refine zl_call (by first | exact want_none | exact want_L rfl) rfl (by decide) rfl (twice_calls (hA.no hC) hal) ?_
              rintro _ w2 ⟨q, rfl, hq, hC2⟩
              refine ⟨_, rfl, ?_⟩
              cases q
              · iterate 3 (refine zl_pureL rfl ?_)
                refine zl_nil ?_
                refine zk_seq ?_
                refine zc_ret ?_
                refine zk_ret_block ?_
                refine zk_ret_then ?_
                exact zk_ret1 (.inr rfl) rfl rfl ⟨true, rfl, iff_of_true rfl (.inl ⟨k1, h1, h2, by assumption, by assumption, h5, fun ht => absurd (hq.2 ht) Bool.false_ne_true⟩), hC.no hC2⟩
              · iterate 3 (refine zl_pureL rfl ?_)
                refine zl_nil ?_
                refine zk_seq ?_
                refine zc_ret ?_
                refine zk_ret_block ?_
                refine zk_ret_then ?_
                exact zk_ret1 (.inr rfl) rfl rfl ⟨false, rfl, no (by unfold sound1; have := hq.1 rfl; rintro (h | h | h) <;> first | omega | exact h.2.2.2.2.2.2 this), hC.no hC2⟩
            · iterate 2 (refine zl_pureL rfl ?_)
              refine z_fa (want_L rfl) (by decide) rfl ?_
              refine z_loadB (want_L rfl) (by decide) rfl (by assumption) (by rfl) ?_
              refine z_cmpB (r := false) (want_L rfl) (by decide) rfl rfl rfl (iff_of_false Bool.false_ne_true (by omega)) ?_
              iterate 2 (refine zl_pureL rfl ?_)
              iterate 3 (refine zl_skip rfl ?_)
              iterate 3 (refine zl_pureL rfl ?_)
              refine zl_nil ?_
              refine zk_seq ?_
              refine zc_ret ?_
              refine zk_ret_block ?_
              refine zk_ret_then ?_
              exact zk_ret1 (.inr rfl) rfl rfl ⟨false, rfl, no (by unfold sound1; omega), hC⟩
          · iterate 2 (refine zl_pureL rfl ?_)
            iterate 3 (refine zl_skip rfl ?_)
            iterate 2 (refine zl_pureL rfl ?_)
            iterate 3 (refine zl_skip rfl ?_)
            iterate 3 (refine zl_pureL rfl ?_)
            refine zl_nil ?_
            refine zk_seq ?_
            refine zc_ret ?_
            refine zk_ret_block ?_
            refine zk_ret_then ?_
            exact zk_ret1 (.inr rfl) rfl rfl ⟨false, rfl, no (by unfold sound1; rintro (h | h | h) <;> first | omega | exact absurd h.2.2.2.2.1 (by assumption)), hC⟩
        · iterate 2 (refine zl_pureL rfl ?_)
          iterate 3 (refine zl_skip rfl ?_)
          iterate 2 (refine zl_pureL rfl ?_)
          iterate 3 (refine zl_skip rfl ?_)
          iterate 2 (refine zl_pureL rfl ?_)
          iterate 3 (refine zl_skip rfl ?_)
          iterate 3 (refine zl_pureL rfl ?_)
          refine zl_nil ?_
          refine zk_seq ?_
          refine zc_ret ?_
          refine zk_ret_block ?_
          refine zk_ret_then ?_
          exact zk_ret1 (.inr rfl) rfl rfl ⟨false, rfl, no (by unfold sound1; rintro (h | h | h) <;> first | omega | exact absurd (by assumption) h.2.2.2.1), hC⟩
      · refine zl_pureL rfl ?_
        refine zl_nil ?_
        refine zk_seq ?_
        iterate 2 (refine zc_seq ?_)
        refine zc_region ?_
        refine z_fa want_none (by decide) rfl ?_
        refine z_loadB want_none (by decide) rfl (by assumption) (by rfl) ?_
        refine zl_nil ?_
        refine zk_seq ?_
        refine zc_block ?_
        refine zc_seq ?_
        refine zc_region ?_
        refine z_cmpB (r := true) want_none (by decide) rfl rfl rfl (iff_of_true rfl (by omega)) ?_
        refine zl_pureL rfl ?_
        refine zl_nil ?_
        refine zk_seq ?_
        refine zc_true rfl ?_
        refine zc_seq ?_
        refine zc_region ?_
        refine z_fa want_none (by decide) rfl ?_
        refine z_loadB want_none (by decide) rfl (by assumption) (by rfl) ?_
        refine z_cmpB (r := true) want_none (by decide) rfl rfl rfl (iff_of_true rfl (by omega)) ?_
        refine zl_pureL rfl ?_
        refine z_fa (want_L rfl) (by decide) rfl ?_
        refine z_loadB (want_L rfl) (by decide) rfl (by assumption) (by rfl) ?_
        refine z_cmpB (r := false) (want_L rfl) (by decide) rfl rfl rfl (iff_of_false Bool.false_ne_true (by omega)) ?_
        iterate 2 (refine zl_pureL rfl ?_)
        iterate 3 (refine zl_skip rfl ?_)
        iterate 2 (refine zl_pureL rfl ?_)
        iterate 3 (refine zl_skip rfl ?_)
        iterate 2 (refine zl_pureL rfl ?_)
        iterate 3 (refine zl_skip rfl ?_)
        iterate 2 (refine zl_pureL rfl ?_)
        iterate 3 (refine zl_skip rfl ?_)
        iterate 3 (refine zl_pureL rfl ?_)
        refine zl_nil ?_
        refine zk_seq ?_
        refine zc_ret ?_
        refine zk_ret_block ?_
        refine zk_ret_then ?_
        exact zk_ret1 (.inr rfl) rfl rfl ⟨false, rfl, no (by unfold sound1; omega), hC⟩
    · refine zl_pureL rfl ?_
      refine zl_nil ?_
      refine zk_seq ?_
      iterate 2 (refine zc_seq ?_)
      refine zc_region ?_
      refine z_fa want_none (by decide) rfl ?_
      refine z_loadB want_none (by decide) rfl (by assumption) (by rfl) ?_
      refine zl_nil ?_
      refine zk_seq ?_
      refine zc_block ?_
      refine zc_seq ?_
      refine zc_region ?_
      refine z_cmpB (r := true) want_none (by decide) rfl rfl rfl (iff_of_true rfl (by omega)) ?_
      refine zl_pureL rfl ?_
      refine zl_nil ?_
      refine zk_seq ?_
      refine zc_true rfl ?_
      refine zc_seq ?_
      refine zc_region ?_
      refine z_fa want_none (by decide) rfl ?_
      refine z_loadB want_none (by decide) rfl (by assumption) (by rfl) ?_
      refine z_cmpB (r := false) want_none (by decide) rfl rfl rfl (iff_of_false Bool.false_ne_true (by omega)) ?_
      refine zl_pureL rfl ?_
      iterate 3 (refine zl_skip rfl ?_)
      iterate 2 (refine zl_pureL rfl ?_)
      iterate 3 (refine zl_skip rfl ?_)
      iterate 2 (refine zl_pureL rfl ?_)
      iterate 3 (refine zl_skip rfl ?_)
      iterate 2 (refine zl_pureL rfl ?_)
      iterate 3 (refine zl_skip rfl ?_)
      iterate 2 (refine zl_pureL rfl ?_)
      iterate 3 (refine zl_skip rfl ?_)
      iterate 3 (refine zl_pureL rfl ?_)
      refine zl_nil ?_
      refine zk_seq ?_
      refine zc_ret ?_
      refine zk_ret_block ?_
      refine zk_ret_then ?_
      exact zk_ret1 (.inr rfl) rfl rfl ⟨false, rfl, no (by unfold sound1; omega), hC⟩
  by_cases k2 : x.kind = 2
  · by_cases h1 : x.space = 0
    · refine zl_pureL rfl ?_
      refine zl_nil ?_
      refine zk_seq ?_
      iterate 2 (refine zc_seq ?_)
      refine zc_region ?_
      refine z_fa want_none (by decide) rfl ?_
      refine z_loadB want_none (by decide) rfl (by assumption) (by rfl) ?_
      refine zl_nil ?_
      refine zk_seq ?_
      refine zc_block ?_
      refine zc_seq ?_
      refine zc_region ?_
      refine z_cmpB (r := false) want_none (by decide) rfl rfl rfl (iff_of_false Bool.false_ne_true (by omega)) ?_
      refine zl_pureL rfl ?_
      refine zl_nil ?_
      refine zk_seq ?_
      refine zc_false rfl ?_
      refine zc_seq ?_
      refine zc_region ?_
      refine z_cmpB (r := true) want_none (by decide) rfl rfl rfl (iff_of_true rfl (by omega)) ?_
      refine zl_pureL rfl ?_
      refine zl_nil ?_
      refine zk_seq ?_
      refine zc_true rfl ?_
      refine zc_seq ?_
      refine zc_region ?_
      refine z_fa want_none (by decide) rfl ?_
      refine z_loadB want_none (by decide) rfl (by assumption) (by rfl) ?_
      refine z_cmpB (r := true) want_none (by decide) rfl rfl rfl (iff_of_true rfl (by omega)) ?_
      refine zl_pureL rfl ?_
      refine z_fa (want_L rfl) (by decide) rfl ?_
      refine z_loadB (want_L rfl) (by decide) rfl (by assumption) (by rfl) ?_
      refine z_eqS (by first | exact want_none | exact want_L rfl) (by decide) rfl rfl (fun hc => ?_) (fun hc => ?_)
      · by_cases h2 : x.attrs.length = 0
        · by_cases h3 : k.len = 0
          · iterate 2 (refine zl_pureL rfl ?_)
            refine z_fa (want_L rfl) (by decide) rfl ?_
            refine z_loadB (want_L rfl) (by decide) rfl (by assumption) (by rfl) ?_
            refine z_len (want_L rfl) (by decide) rfl ?_
            refine z_cmpB (r := true) (want_L rfl) (by decide) rfl rfl rfl (iff_of_true rfl (by omega)) ?_
            iterate 2 (refine zl_pureL rfl ?_)
            refine z_fa (want_L rfl) (by decide) rfl ?_
            refine z_loadB (want_L rfl) (by decide) rfl (by assumption) (by rfl) ?_
            refine z_len (want_L rfl) (by decide) rfl ?_
            refine z_cmpB (r := true) (want_L rfl) (by decide) rfl rfl rfl (iff_of_true rfl (by omega)) ?_
            iterate 2 (refine zl_pureL rfl ?_)
            refine z_fa (want_L rfl) (by decide) rfl ?_
            refine z_loadB (want_L rfl) (by decide) rfl (by assumption) (by rfl) ?_
            refine z_neS (by first | exact want_none | exact want_L rfl) (by decide) rfl rfl (fun hc => ?_) (fun hc => ?_)
            · by_cases h4 : 0 ≤ x.fr
              · iterate 2 (refine zl_pureL rfl ?_)
                refine z_fa (want_L rfl) (by decide) rfl ?_
                refine z_loadB (want_L rfl) (by decide) rfl (by assumption) (by rfl) ?_
                refine z_cmpB (r := true) (want_L rfl) (by decide) rfl rfl rfl (iff_of_true rfl (by omega)) ?_
                iterate 2 (refine zl_pureL rfl ?_)
                refine zl_nil ?_
                refine zk_seq ?_
                refine zc_ret ?_
                refine zk_ret_block ?_
                refine zk_ret_then ?_
                exact zk_ret1 (.inr rfl) rfl rfl ⟨true, rfl, iff_of_true rfl (.inr (.inl ⟨k2, h1, by assumption, h2, h3, by assumption, h4⟩)), hC⟩
              · iterate 2 (refine zl_pureL rfl ?_)
                refine z_fa (want_L rfl) (by decide) rfl ?_
                refine z_loadB (want_L rfl) (by decide) rfl (by assumption) (by rfl) ?_
                refine z_cmpB (r := false) (want_L rfl) (by decide) rfl rfl rfl (iff_of_false Bool.false_ne_true (by omega)) ?_
                iterate 2 (refine zl_pureL rfl ?_)
                refine zl_nil ?_
                refine zk_seq ?_
                refine zc_ret ?_
                refine zk_ret_block ?_
                refine zk_ret_then ?_
                exact zk_ret1 (.inr rfl) rfl rfl ⟨false, rfl, no (by unfold sound1; omega), hC⟩
            · iterate 2 (refine zl_pureL rfl ?_)
              iterate 3 (refine zl_skip rfl ?_)
              iterate 2 (refine zl_pureL rfl ?_)
              refine zl_nil ?_
              refine zk_seq ?_
              refine zc_ret ?_
              refine zk_ret_block ?_
              refine zk_ret_then ?_
              exact zk_ret1 (.inr rfl) rfl rfl ⟨false, rfl, no (by unfold sound1; rintro (h | h | h) <;> first | omega | exact absurd (by assumption) h.2.2.2.2.2.1), hC⟩
          · iterate 2 (refine zl_pureL rfl ?_)
            refine z_fa (want_L rfl) (by decide) rfl ?_
            refine z_loadB (want_L rfl) (by decide) rfl (by assumption) (by rfl) ?_
            refine z_len (want_L rfl) (by decide) rfl ?_
            refine z_cmpB (r := true) (want_L rfl) (by decide) rfl rfl rfl (iff_of_true rfl (by omega)) ?_
            iterate 2 (refine zl_pureL rfl ?_)
            refine z_fa (want_L rfl) (by decide) rfl ?_
            refine z_loadB (want_L rfl) (by decide) rfl (by assumption) (by rfl) ?_
            refine z_len (want_L rfl) (by decide) rfl ?_
            refine z_cmpB (r := false) (want_L rfl) (by decide) rfl rfl rfl (iff_of_false Bool.false_ne_true (by omega)) ?_
            iterate 2 (refine zl_pureL rfl ?_)
            iterate 3 (refine zl_skip rfl ?_)
            iterate 2 (refine zl_pureL rfl ?_)
            iterate 3 (refine zl_skip rfl ?_)
            iterate 2 (refine zl_pureL rfl ?_)
            refine zl_nil ?_
            refine zk_seq ?_
            refine zc_ret ?_
            refine zk_ret_block ?_
            refine zk_ret_then ?_
            exact zk_ret1 (.inr rfl) rfl rfl ⟨false, rfl, no (by unfold sound1; omega), hC⟩
        · iterate 2 (refine zl_pureL rfl ?_)
          refine z_fa (want_L rfl) (by decide) rfl ?_
          refine z_loadB (want_L rfl) (by decide) rfl (by assumption) (by rfl) ?_
          refine z_len (want_L rfl) (by decide) rfl ?_
          refine z_cmpB (r := false) (want_L rfl) (by decide) rfl rfl rfl (iff_of_false Bool.false_ne_true (by omega)) ?_
          iterate 2 (refine zl_pureL rfl ?_)
          iterate 4 (refine zl_skip rfl ?_)
          iterate 2 (refine zl_pureL rfl ?_)
          iterate 3 (refine zl_skip rfl ?_)
          iterate 2 (refine zl_pureL rfl ?_)
          iterate 3 (refine zl_skip rfl ?_)
          iterate 2 (refine zl_pureL rfl ?_)
          refine zl_nil ?_
          refine zk_seq ?_
          refine zc_ret ?_
          refine zk_ret_block ?_
          refine zk_ret_then ?_
          exact zk_ret1 (.inr rfl) rfl rfl ⟨false, rfl, no (by unfold sound1; omega), hC⟩
      · iterate 2 (refine zl_pureL rfl ?_)
        iterate 4 (refine zl_skip rfl ?_)
        iterate 2 (refine zl_pureL rfl ?_)
        iterate 4 (refine zl_skip rfl ?_)
        iterate 2 (refine zl_pureL rfl ?_)
        iterate 3 (refine zl_skip rfl ?_)
        iterate 2 (refine zl_pureL rfl ?_)
        iterate 3 (refine zl_skip rfl ?_)
        iterate 2 (refine zl_pureL rfl ?_)
        refine zl_nil ?_
        refine zk_seq ?_
        refine zc_ret ?_
        refine zk_ret_block ?_
        refine zk_ret_then ?_
        exact zk_ret1 (.inr rfl) rfl rfl ⟨false, rfl, no (by unfold sound1; rintro (h | h | h) <;> first | omega | exact absurd h.2.2.1 (by assumption)), hC⟩
    · refine zl_pureL rfl ?_
      refine zl_nil ?_
      refine zk_seq ?_
      iterate 2 (refine zc_seq ?_)
      refine zc_region ?_
      refine z_fa want_none (by decide) rfl ?_
      refine z_loadB want_none (by decide) rfl (by assumption) (by rfl) ?_
      refine zl_nil ?_
      refine zk_seq ?_
      refine zc_block ?_
      refine zc_seq ?_
      refine zc_region ?_
      refine z_cmpB (r := false) want_none (by decide) rfl rfl rfl (iff_of_false Bool.false_ne_true (by omega)) ?_
      refine zl_pureL rfl ?_
      refine zl_nil ?_
      refine zk_seq ?_
      refine zc_false rfl ?_
      refine zc_seq ?_
      refine zc_region ?_
      refine z_cmpB (r := true) want_none (by decide) rfl rfl rfl (iff_of_true rfl (by omega)) ?_
      refine zl_pureL rfl ?_
      refine zl_nil ?_
      refine zk_seq ?_
      refine zc_true rfl ?_
      refine zc_seq ?_
      refine zc_region ?_
      refine z_fa want_none (by decide) rfl ?_
      refine z_loadB want_none (by decide) rfl (by assumption) (by rfl) ?_
      refine z_cmpB (r := false) want_none (by decide) rfl rfl rfl (iff_of_false Bool.false_ne_true (by omega)) ?_
      refine zl_pureL rfl ?_
      iterate 3 (refine zl_skip rfl ?_)
      iterate 2 (refine zl_pureL rfl ?_)
      iterate 4 (refine zl_skip rfl ?_)
      iterate 2 (refine zl_pureL rfl ?_)
      iterate 4 (refine zl_skip rfl ?_)
      iterate 2 (refine zl_pureL rfl ?_)
      iterate 3 (refine zl_skip rfl ?_)
      iterate 2 (refine zl_pureL rfl ?_)
      iterate 3 (refine zl_skip rfl ?_)
      iterate 2 (refine zl_pureL rfl ?_)
      refine zl_nil ?_
      refine zk_seq ?_
      refine zc_ret ?_
      refine zk_ret_block ?_
      refine zk_ret_then ?_
      exact zk_ret1 (.inr rfl) rfl rfl ⟨false, rfl, no (by unfold sound1; omega), hC⟩
  by_cases k3 : x.kind = 3
  · by_cases h1 : x.space = 0
    · refine zl_pureL rfl ?_
      refine zl_nil ?_
      refine zk_seq ?_
      iterate 2 (refine zc_seq ?_)
      refine zc_region ?_
      refine z_fa want_none (by decide) rfl ?_
      refine z_loadB want_none (by decide) rfl (by assumption) (by rfl) ?_
      refine zl_nil ?_
      refine zk_seq ?_
      refine zc_block ?_
      refine zc_seq ?_
      refine zc_region ?_
      refine z_cmpB (r := false) want_none (by decide) rfl rfl rfl (iff_of_false Bool.false_ne_true (by omega)) ?_
      refine zl_pureL rfl ?_
      refine zl_nil ?_
      refine zk_seq ?_
      refine zc_false rfl ?_
      refine zc_seq ?_
      refine zc_region ?_
      refine z_cmpB (r := false) want_none (by decide) rfl rfl rfl (iff_of_false Bool.false_ne_true (by omega)) ?_
      refine zl_pureL rfl ?_
      refine zl_nil ?_
      refine zk_seq ?_
      refine zc_false rfl ?_
      refine zc_seq ?_
      refine zc_region ?_
      refine z_cmpB (r := true) want_none (by decide) rfl rfl rfl (iff_of_true rfl (by omega)) ?_
      refine zl_pureL rfl ?_
      refine zl_nil ?_
      refine zk_seq ?_
      refine zc_true rfl ?_
      refine zc_seq ?_
      refine zc_region ?_
      refine z_fa want_none (by decide) rfl ?_
      refine z_loadB want_none (by decide) rfl (by assumption) (by rfl) ?_
      refine z_cmpB (r := true) want_none (by decide) rfl rfl rfl (iff_of_true rfl (by omega)) ?_
      refine zl_pureL rfl ?_
      refine z_fa (want_L rfl) (by decide) rfl ?_
      refine z_loadB (want_L rfl) (by decide) rfl (by assumption) (by rfl) ?_
      refine z_eqS (by first | exact want_none | exact want_L rfl) (by decide) rfl rfl (fun hc => ?_) (fun hc => ?_)
      · by_cases h2 : x.attrs.length = 0
        · by_cases h3 : k.len = 0
          · by_cases h4 : x.fr = 0
            · iterate 2 (refine zl_pureL rfl ?_)
              refine z_fa (want_L rfl) (by decide) rfl ?_
              refine z_loadB (want_L rfl) (by decide) rfl (by assumption) (by rfl) ?_
              refine z_len (want_L rfl) (by decide) rfl ?_
              refine z_cmpB (r := true) (want_L rfl) (by decide) rfl rfl rfl (iff_of_true rfl (by omega)) ?_
              iterate 2 (refine zl_pureL rfl ?_)
              refine z_fa (want_L rfl) (by decide) rfl ?_
              refine z_loadB (want_L rfl) (by decide) rfl (by assumption) (by rfl) ?_
              refine z_len (want_L rfl) (by decide) rfl ?_
              refine z_cmpB (r := true) (want_L rfl) (by decide) rfl rfl rfl (iff_of_true rfl (by omega)) ?_
              iterate 2 (refine zl_pureL rfl ?_)
              refine z_fa (want_L rfl) (by decide) rfl ?_
              refine z_loadB (want_L rfl) (by decide) rfl (by assumption) (by rfl) ?_
              refine z_cmpB (r := true) (want_L rfl) (by decide) rfl rfl rfl (iff_of_true rfl (by omega)) ?_
              iterate 2 (refine zl_pureL rfl ?_)
              refine zl_nil ?_
              refine zk_seq ?_
              refine zc_ret ?_
              refine zk_ret_block ?_
              refine zk_ret_then ?_
              exact zk_ret1 (.inr rfl) rfl rfl ⟨true, rfl, iff_of_true rfl (.inr (.inr ⟨k3, h1, by assumption, h2, h3, h4⟩)), hC⟩
            · iterate 2 (refine zl_pureL rfl ?_)
              refine z_fa (want_L rfl) (by decide) rfl ?_
              refine z_loadB (want_L rfl) (by decide) rfl (by assumption) (by rfl) ?_
              refine z_len (want_L rfl) (by decide) rfl ?_
              refine z_cmpB (r := true) (want_L rfl) (by decide) rfl rfl rfl (iff_of_true rfl (by omega)) ?_
              iterate 2 (refine zl_pureL rfl ?_)
              refine z_fa (want_L rfl) (by decide) rfl ?_
              refine z_loadB (want_L rfl) (by decide) rfl (by assumption) (by rfl) ?_
              refine z_len (want_L rfl) (by decide) rfl ?_
              refine z_cmpB (r := true) (want_L rfl) (by decide) rfl rfl rfl (iff_of_true rfl (by omega)) ?_
              iterate 2 (refine zl_pureL rfl ?_)
              refine z_fa (want_L rfl) (by decide) rfl ?_
              refine z_loadB (want_L rfl) (by decide) rfl (by assumption) (by rfl) ?_
              refine z_cmpB (r := false) (want_L rfl) (by decide) rfl rfl rfl (iff_of_false Bool.false_ne_true (by omega)) ?_
              iterate 2 (refine zl_pureL rfl ?_)
              refine zl_nil ?_
              refine zk_seq ?_
              refine zc_ret ?_
              refine zk_ret_block ?_
              refine zk_ret_then ?_
              exact zk_ret1 (.inr rfl) rfl rfl ⟨false, rfl, no (by unfold sound1; omega), hC⟩
          · iterate 2 (refine zl_pureL rfl ?_)
            refine z_fa (want_L rfl) (by decide) rfl ?_
            refine z_loadB (want_L rfl) (by decide) rfl (by assumption) (by rfl) ?_
            refine z_len (want_L rfl) (by decide) rfl ?_
            refine z_cmpB (r := true) (want_L rfl) (by decide) rfl rfl rfl (iff_of_true rfl (by omega)) ?_
            iterate 2 (refine zl_pureL rfl ?_)
            refine z_fa (want_L rfl) (by decide) rfl ?_
            refine z_loadB (want_L rfl) (by decide) rfl (by assumption) (by rfl) ?_
            refine z_len (want_L rfl) (by decide) rfl ?_
            refine z_cmpB (r := false) (want_L rfl) (by decide) rfl rfl rfl (iff_of_false Bool.false_ne_true (by omega)) ?_
            iterate 2 (refine zl_pureL rfl ?_)
            iterate 3 (refine zl_skip rfl ?_)
            iterate 2 (refine zl_pureL rfl ?_)
            refine zl_nil ?_
            refine zk_seq ?_
            refine zc_ret ?_
            refine zk_ret_block ?_
            refine zk_ret_then ?_
            exact zk_ret1 (.inr rfl) rfl rfl ⟨false, rfl, no (by unfold sound1; omega), hC⟩
        · iterate 2 (refine zl_pureL rfl ?_)
          refine z_fa (want_L rfl) (by decide) rfl ?_
          refine z_loadB (want_L rfl) (by decide) rfl (by assumption) (by rfl) ?_
          refine z_len (want_L rfl) (by decide) rfl ?_
          refine z_cmpB (r := false) (want_L rfl) (by decide) rfl rfl rfl (iff_of_false Bool.false_ne_true (by omega)) ?_
          iterate 2 (refine zl_pureL rfl ?_)
          iterate 4 (refine zl_skip rfl ?_)
          iterate 2 (refine zl_pureL rfl ?_)
          iterate 3 (refine zl_skip rfl ?_)
          iterate 2 (refine zl_pureL rfl ?_)
          refine zl_nil ?_
          refine zk_seq ?_
          refine zc_ret ?_
          refine zk_ret_block ?_
          refine zk_ret_then ?_
          exact zk_ret1 (.inr rfl) rfl rfl ⟨false, rfl, no (by unfold sound1; omega), hC⟩
      · iterate 2 (refine zl_pureL rfl ?_)
        iterate 4 (refine zl_skip rfl ?_)
        iterate 2 (refine zl_pureL rfl ?_)
        iterate 4 (refine zl_skip rfl ?_)
        iterate 2 (refine zl_pureL rfl ?_)
        iterate 3 (refine zl_skip rfl ?_)
        iterate 2 (refine zl_pureL rfl ?_)
        refine zl_nil ?_
        refine zk_seq ?_
        refine zc_ret ?_
        refine zk_ret_block ?_
        refine zk_ret_then ?_
        exact zk_ret1 (.inr rfl) rfl rfl ⟨false, rfl, no (by unfold sound1; rintro (h | h | h) <;> first | omega | exact absurd h.2.2.1 (by assumption)), hC⟩
    · refine zl_pureL rfl ?_
      refine zl_nil ?_
      refine zk_seq ?_
      iterate 2 (refine zc_seq ?_)
      refine zc_region ?_
      refine z_fa want_none (by decide) rfl ?_
      refine z_loadB want_none (by decide) rfl (by assumption) (by rfl) ?_
      refine zl_nil ?_
      refine zk_seq ?_
      refine zc_block ?_
      refine zc_seq ?_
      refine zc_region ?_
      refine z_cmpB (r := false) want_none (by decide) rfl rfl rfl (iff_of_false Bool.false_ne_true (by omega)) ?_
      refine zl_pureL rfl ?_
      refine zl_nil ?_
      refine zk_seq ?_
      refine zc_false rfl ?_
      refine zc_seq ?_
      refine zc_region ?_
      refine z_cmpB (r := false) want_none (by decide) rfl rfl rfl (iff_of_false Bool.false_ne_true (by omega)) ?_
      refine zl_pureL rfl ?_
      refine zl_nil ?_
      refine zk_seq ?_
      refine zc_false rfl ?_
      refine zc_seq ?_
      refine zc_region ?_
      refine z_cmpB (r := true) want_none (by decide) rfl rfl rfl (iff_of_true rfl (by omega)) ?_
      refine zl_pureL rfl ?_
      refine zl_nil ?_
      refine zk_seq ?_
      refine zc_true rfl ?_
      refine zc_seq ?_
      refine zc_region ?_
      refine z_fa want_none (by decide) rfl ?_
      refine z_loadB want_none (by decide) rfl (by assumption) (by rfl) ?_
      refine z_cmpB (r := false) want_none (by decide) rfl rfl rfl (iff_of_false Bool.false_ne_true (by omega)) ?_
      refine zl_pureL rfl ?_
      iterate 3 (refine zl_skip rfl ?_)
      iterate 2 (refine zl_pureL rfl ?_)
      iterate 4 (refine zl_skip rfl ?_)
      iterate 2 (refine zl_pureL rfl ?_)
      iterate 4 (refine zl_skip rfl ?_)
      iterate 2 (refine zl_pureL rfl ?_)
      iterate 3 (refine zl_skip rfl ?_)
      iterate 2 (refine zl_pureL rfl ?_)
      refine zl_nil ?_
      refine zk_seq ?_
      refine zc_ret ?_
      refine zk_ret_block ?_
      refine zk_ret_then ?_
      exact zk_ret1 (.inr rfl) rfl rfl ⟨false, rfl, no (by unfold sound1; omega), hC⟩
  · refine zl_pureL rfl ?_
    refine zl_nil ?_
    refine zk_seq ?_
    iterate 2 (refine zc_seq ?_)
    refine zc_region ?_
    refine z_fa want_none (by decide) rfl ?_
    refine z_loadB want_none (by decide) rfl (by assumption) (by rfl) ?_
    refine zl_nil ?_
    refine zk_seq ?_
    refine zc_block ?_
    refine zc_seq ?_
    refine zc_region ?_
    refine z_cmpB (r := false) want_none (by decide) rfl rfl rfl (iff_of_false Bool.false_ne_true (by omega)) ?_
    refine zl_pureL rfl ?_
    refine zl_nil ?_
    refine zk_seq ?_
    refine zc_false rfl ?_
    refine zc_seq ?_
    refine zc_region ?_
    refine z_cmpB (r := false) want_none (by decide) rfl rfl rfl (iff_of_false Bool.false_ne_true (by omega)) ?_
    refine zl_pureL rfl ?_
    refine zl_nil ?_
    refine zk_seq ?_
    refine zc_false rfl ?_
    refine zc_seq ?_
    refine zc_region ?_
    refine z_cmpB (r := false) want_none (by decide) rfl rfl rfl (iff_of_false Bool.false_ne_true (by omega)) ?_
    refine zl_pureL rfl ?_
    refine zl_nil ?_
    refine zk_seq ?_
    refine zc_false rfl ?_
    refine zc_skip ?_
    refine zk_norm_block ?_
    refine zk_seq ?_
    refine zc_seq ?_
    refine zc_region ?_
    refine zl_pureL rfl ?_
    refine zl_nil ?_
    refine zk_seq ?_
    refine zc_ret ?_
    exact zk_ret1 (.inr rfl) rfl rfl ⟨false, rfl, no (by unfold sound1; omega), hC⟩
/-- no row of attributes is too long -/
def FewT : NT → Prop
  | .nil => True
  | .cons x k r => x.attrs.length ≤ 100000 ∧ FewT k ∧ FewT r
theorem FewT.drop : ∀ (t : NT) (i : Nat) (x : Hd) (k r : NT), FewT t → t.dropN i = .cons x k r → x.attrs.length ≤ 100000 ∧ FewT k ∧ FewT r
  | .nil, 0, x, k, r, _, h => by cases h
  | .cons _ _ _, 0, x, k, r, hf, h => by cases h; exact hf
  | .nil, i + 1, x, k, r, _, h => by cases h
  | .cons _ _ q, i + 1, x, k, r, hf, h => FewT.drop q i x k r hf.2.2 h
set_option maxHeartbeats 4000000 in
theorem sound_calls : ∀ (f : Nat) {w : World} {v : Value} {t : NT}, TreeAt w v t → FewT t → t.size ≤ f → f ≤ 100000 →
    Calls Try.prog 31 [v].toArray w fun e w' => ∃ q, e = .returned (.bool q) ∧ (q = true ↔ SoundF false t) ∧ Chg w w' No := by
  intro f
  induction f with
  | zero =>
    intro w v t h hfew hs _
    cases t with
    | cons x k r => simp [NT.size] at hs
    | nil =>
      obtain ⟨A, c, rfl, hc⟩ := h.form
      refine calls_zc (n := 40) (f := 31) (fn := Try.f31) Try.func31 rfl rfl (by simp) ?_
      refine zc_seq ?_
      refine zc_region ?_
      refine zl_pureL rfl ?_
      refine zl_nil ?_
      refine zk_seq ?_
      iterate 2 (refine zc_seq ?_)
      refine zc_region ?_
      refine zl_pureL rfl ?_
      refine z_len want_none (by decide) rfl ?_
      refine zl_pureL rfl ?_
      refine zl_nil ?_
      refine zk_seq ?_
      refine zc_block ?_
      refine zc_loopW (ι := Nat) (fun i u => [(0, .slice A 0 c), (5, .slice A 0 c), (6, .int .i64 0), (7, .int .i64 0)]) (fun i u => u = w) (fun i u => 0) 0 rfl ?_ ?_
      · exact ⟨rfl, rfl, rfl, rfl, trivial⟩
      rintro i u rfl
      refine zc_seq ?_
      refine zc_region ?_
      refine z_cmpB (r := false) want_none (by decide) rfl rfl rfl (iff_of_false Bool.false_ne_true (by omega)) ?_
      refine zl_nil ?_
      refine zk_seq ?_
      refine zc_seq ?_
      refine zc_false rfl ?_
      refine zc_exit ?_
      iterate 2 (refine zk_exit_then ?_)
      refine zk_exit_block ?_
      refine zk_seq ?_
      refine zc_seq ?_
      refine zc_region ?_
      refine zl_pureL rfl ?_
      refine zl_nil ?_
      refine zk_seq ?_
      refine zc_ret ?_
      exact zk_ret1 (.inr rfl) rfl rfl ⟨true, rfl, iff_of_true rfl trivial, Chg.refl _ _⟩
  | succ f ih =>
    intro w v t h hfew hs hf
    obtain ⟨A, c, hv, hc⟩ := h.form
    have hls := t.len_size
    subst hv
    have no : ∀ {p : Prop}, ¬ p → ((false : Bool) = true ↔ p) := fun h => iff_of_false Bool.false_ne_true h
    refine calls_zc (n := 40) (f := 31) (fn := Try.f31) Try.func31 rfl rfl (by simp) ?_
    refine zc_seq ?_
    refine zc_region ?_
    refine zl_pureL rfl ?_
    refine zl_nil ?_
    refine zk_seq ?_
    iterate 2 (refine zc_seq ?_)
    refine zc_region ?_
    refine zl_pureL rfl ?_
    refine z_len want_none (by decide) rfl ?_
    refine zl_pureL rfl ?_
    refine zl_nil ?_
    refine zk_seq ?_
    refine zc_block ?_
    refine zc_loopW (ι := Nat) (fun i u => [(0, .slice A t.len c), (5, .slice A t.len c), (6, .int .i64 t.len), (7, .int .i64 i)])
      (fun i u => i ≤ t.len ∧ (SoundF (prevB t i) (t.dropN i) ↔ SoundF false t) ∧ Chg w u No) (fun i u => t.len - i) 0 ⟨Nat.zero_le _, Iff.rfl, Chg.refl _ _⟩ ?_ ?_
    · exact ⟨rfl, rfl, rfl, rfl, trivial⟩
    rintro i u ⟨hi, hd, hC⟩
    by_cases hlt : i < t.len
    · obtain ⟨b, o, c', x, k, r, A', K, e1, hv, hN, hA, hK⟩ := (h.no hC).at_ i hlt
      cases hv
      have hsz := t.drop_size i
      rw [e1] at hsz hd
      simp only [NT.size] at hsz
      obtain ⟨hxa, hfk, hfr⟩ := hfew.drop t i x k r e1
      have hkl := k.len_size
      obtain ⟨A2, c2, rfl, _⟩ := hA.form
      obtain ⟨A3, c3, rfl, _⟩ := hK.form
      refine zc_seq ?_
      refine zc_region ?_
      refine z_cmpB (r := true) want_none (by decide) rfl rfl rfl (iff_of_true rfl (by omega)) ?_
      refine zl_nil ?_
      refine zk_seq ?_
      refine zc_seq ?_
      refine zc_true rfl ?_
      refine zc_skip ?_
      refine zk_seq ?_
      refine zc_seq ?_
      refine zc_block ?_
      refine zc_seq ?_
      refine zc_region ?_
      refine zl_pureL rfl ?_
      refine z_ia want_none (by decide) rfl rfl (by omega) (by omega) ?_
      refine z_loadA (by rfl) (by first | exact want_none | exact want_L rfl) (by decide) rfl (hN.agg (by omega)) ?_
      refine z_alloc (by first | exact want_none | exact want_L rfl) (by decide) (fun u1 b1 hN1 => ?_)
      have hb1 : Blk u1 b1 48 [.int .i64 0, .int .i64 0, .string ⟨#[]⟩, .slice none 0 0, .string ⟨#[]⟩, .int .i64 0, .slice none 0 0] := hN1.blk
      refine zl_pureL rfl ?_
      refine z_store (by first | exact want_none | exact want_L rfl) rfl rfl rfl (by assumption) (by first | exact Nat.le_refl _ | simp [Value.cells]) (by simp [Value.cells, Value.oneCell']) (fun u2 hU2 => ?_)
      have hb2 : Blk u2 b1 48 [.int .i64 x.kind, .int .i64 x.space, .string x.name, .slice A2 x.attrs.length c2, .string x.text, .int .i64 x.fr, .slice A3 k.len c3] := hU2.blk
      have hC2 := hN1.chg.upd hU2 (hN1.ge (Chg.refl _ No))
      refine zl_nil ?_
      refine zk_seq ?_
      refine zc_seq ?_
      refine zc_region ?_
      refine z_loadAB want_none (by decide) rfl (by assumption) (by rfl) ?_
      refine zl_call (by first | exact want_none | exact want_L rfl) rfl (by decide) rfl (sound1_calls (hA.no hC2) (hK.no hC2) hxa (by omega)) ?_
      rintro _ u3 ⟨q1, rfl, hq1, hC3⟩
      refine ⟨_, rfl, ?_⟩
      have hb3 := hb2.no hC3
      cases q1
      · iterate 2 (refine zl_pureL rfl ?_)
        iterate 3 (refine zl_skip rfl ?_)
        iterate 4 (refine zl_pureL rfl ?_)
        refine zl_skip rfl ?_
        refine zl_pureL rfl ?_
        iterate 3 (refine zl_skip rfl ?_)
        iterate 4 (refine zl_pureL rfl ?_)
        iterate 5 (refine zl_skip rfl ?_)
        iterate 2 (refine zl_pureL rfl ?_)
        refine zl_nil ?_
        refine zk_seq ?_
        refine zc_true rfl ?_
        refine zc_seq ?_
        refine zc_region ?_
        refine zl_pureL rfl ?_
        refine zl_nil ?_
        refine zk_seq ?_
        refine zc_ret ?_
        refine zk_ret_block ?_
        iterate 2 (refine zk_ret_then ?_)
        refine zk_ret_block ?_
        refine zk_ret_then ?_
        exact zk_ret1 (.inr rfl) rfl rfl ⟨false, rfl, no (fun hh => absurd (hq1.2 (hd.2 hh).1) Bool.false_ne_true), hC.no (hC2.no hC3)⟩
      have s1 := hq1.1 rfl
      iterate 2 (refine zl_pureL rfl ?_)
      refine z_fa (want_L rfl) (by decide) rfl ?_
      refine z_loadB (want_L rfl) (by decide) rfl (by assumption) (by rfl) ?_
      refine zl_call (by first | exact want_none | exact want_L rfl) rfl (by decide) rfl (ih (hK.no (hC2.no hC3)) hfk (by omega) (by omega)) ?_
      rintro _ u4 ⟨q2, rfl, hq2, hC4⟩
      refine ⟨_, rfl, ?_⟩
      have hC4' := hC2.no (hC3.no hC4)
      have hb4 := hb3.no hC4
      cases q2
      · iterate 4 (refine zl_pureL rfl ?_)
        refine zl_skip rfl ?_
        refine zl_pureL rfl ?_
        iterate 3 (refine zl_skip rfl ?_)
        iterate 4 (refine zl_pureL rfl ?_)
        iterate 5 (refine zl_skip rfl ?_)
        iterate 2 (refine zl_pureL rfl ?_)
        refine zl_nil ?_
        refine zk_seq ?_
        refine zc_true rfl ?_
        refine zc_seq ?_
        refine zc_region ?_
        refine zl_pureL rfl ?_
        refine zl_nil ?_
        refine zk_seq ?_
        refine zc_ret ?_
        refine zk_ret_block ?_
        iterate 2 (refine zk_ret_then ?_)
        refine zk_ret_block ?_
        refine zk_ret_then ?_
        exact zk_ret1 (.inr rfl) rfl rfl ⟨false, rfl, no (fun hh => absurd (hq2.2 (hd.2 hh).2.1) Bool.false_ne_true), hC.no hC4'⟩
      have s2 := hq2.1 rfl
      have hnext : ¬ (prevB t i = true ∧ x.kind = 2) → (SoundF (prevB t (i + 1)) (t.dropN (i + 1)) ↔ SoundF false t) := fun hn => by
        rw [t.drop_succ i x k r e1, ← hd]
        have := prevB_succ e1
        rw [this]
        exact ⟨fun h => ⟨s1, s2, hn, h⟩, fun h => h.2.2.2⟩
      by_cases h0 : i = 0
      · subst h0
        iterate 4 (refine zl_pureL rfl ?_)
        refine z_cmpB (r := false) (want_L rfl) (by decide) rfl rfl rfl (iff_of_false Bool.false_ne_true (by omega)) ?_
        refine zl_pureL rfl ?_
        iterate 3 (refine zl_skip rfl ?_)
        iterate 4 (refine zl_pureL rfl ?_)
        iterate 5 (refine zl_skip rfl ?_)
        iterate 2 (refine zl_pureL rfl ?_)
        refine zl_nil ?_
        refine zk_seq ?_
        refine zc_false rfl ?_
        refine zc_skip ?_
        refine zk_norm_block ?_
        refine zk_seq ?_
        refine zc_region ?_
        refine z_add want_none (by decide) rfl rfl (by omega) (by omega) ?_
        refine zl_pureL rfl ?_
        refine zl_nil ?_
        exact zk_loopW 1 ⟨by omega, hnext (fun hh => absurd hh.1 Bool.false_ne_true), hC.no hC4'⟩ (by omega) ⟨rfl, rfl, rfl, rfl, trivial⟩
      · obtain ⟨j, rfl⟩ : ∃ j, i = j + 1 := ⟨i - 1, by omega⟩
        by_cases hk2 : x.kind = 2
        · obtain ⟨b', o', c'', x', k', r', A', K', e1', hv', hN', hA', hK'⟩ := (h.no (hC.no hC4')).at_ j (by omega)
          cases hv'
          have hpb := prevB_succ e1'
          iterate 4 (refine zl_pureL rfl ?_)
          refine z_cmpB (r := true) (want_L rfl) (by decide) rfl rfl rfl (iff_of_true rfl (by omega)) ?_
          refine zl_pureL rfl ?_
          refine z_fa (want_L rfl) (by decide) rfl ?_
          refine z_loadB (want_L rfl) (by decide) rfl (by assumption) (by rfl) ?_
          refine z_cmpB (r := true) (want_L rfl) (by decide) rfl rfl rfl (iff_of_true rfl (by omega)) ?_
          iterate 4 (refine zl_pureL rfl ?_)
          refine z_sub (want_L rfl) (by decide) rfl rfl (by omega) (by omega) ?_
          refine z_ia (want_L rfl) (by decide) rfl rfl (by omega) (by omega) ?_
          refine z_fa (want_L rfl) (by decide) rfl ?_
          refine z_load1 (by first | exact want_none | exact want_L rfl) (by decide) rfl (cell_at hN'.c0 (by omega)) ?_
          by_cases hk2' : x'.kind = 2
          · refine z_cmpB (r := true) (want_L rfl) (by decide) rfl rfl rfl (iff_of_true rfl (by omega)) ?_
            iterate 2 (refine zl_pureL rfl ?_)
            refine zl_nil ?_
            refine zk_seq ?_
            refine zc_true rfl ?_
            refine zc_seq ?_
            refine zc_region ?_
            refine zl_pureL rfl ?_
            refine zl_nil ?_
            refine zk_seq ?_
            refine zc_ret ?_
            refine zk_ret_block ?_
            iterate 2 (refine zk_ret_then ?_)
            refine zk_ret_block ?_
            refine zk_ret_then ?_
            exact zk_ret1 (.inr rfl) rfl rfl ⟨false, rfl, no (fun hh => (hd.2 hh).2.2.1 ⟨by rw [hpb, decide_eq_true hk2'], hk2⟩), hC.no hC4'⟩
          · refine z_cmpB (r := false) (want_L rfl) (by decide) rfl rfl rfl (iff_of_false Bool.false_ne_true (by omega)) ?_
            iterate 2 (refine zl_pureL rfl ?_)
            refine zl_nil ?_
            refine zk_seq ?_
            refine zc_false rfl ?_
            refine zc_skip ?_
            refine zk_norm_block ?_
            refine zk_seq ?_
            refine zc_region ?_
            refine z_add want_none (by decide) rfl rfl (by omega) (by omega) ?_
            refine zl_pureL rfl ?_
            refine zl_nil ?_
            exact zk_loopW (j + 1 + 1) ⟨by omega, hnext (fun hh => by rw [hpb, decide_eq_false hk2'] at hh; exact absurd hh.1 Bool.false_ne_true), hC.no hC4'⟩ (by omega) ⟨rfl, rfl, rfl, get_int rfl (by simp), trivial⟩
        · iterate 4 (refine zl_pureL rfl ?_)
          refine z_cmpB (r := true) (want_L rfl) (by decide) rfl rfl rfl (iff_of_true rfl (by omega)) ?_
          refine zl_pureL rfl ?_
          refine z_fa (want_L rfl) (by decide) rfl ?_
          refine z_loadB (want_L rfl) (by decide) rfl (by assumption) (by rfl) ?_
          refine z_cmpB (r := false) (want_L rfl) (by decide) rfl rfl rfl (iff_of_false Bool.false_ne_true (by omega)) ?_
          iterate 4 (refine zl_pureL rfl ?_)
          iterate 5 (refine zl_skip rfl ?_)
          iterate 2 (refine zl_pureL rfl ?_)
          refine zl_nil ?_
          refine zk_seq ?_
          refine zc_false rfl ?_
          refine zc_skip ?_
          refine zk_norm_block ?_
          refine zk_seq ?_
          refine zc_region ?_
          refine z_add want_none (by decide) rfl rfl (by omega) (by omega) ?_
          refine zl_pureL rfl ?_
          refine zl_nil ?_
          exact zk_loopW (j + 1 + 1) ⟨by omega, hnext (fun hh => hk2 hh.2), hC.no hC4'⟩ (by omega) ⟨rfl, rfl, rfl, get_int rfl (by simp), trivial⟩
    · obtain rfl : i = t.len := by omega
      rw [t.drop_len] at hd
      refine zc_seq ?_
      refine zc_region ?_
      refine z_cmpB (r := false) want_none (by decide) rfl rfl rfl (iff_of_false Bool.false_ne_true (by omega)) ?_
      refine zl_nil ?_
      refine zk_seq ?_
      refine zc_seq ?_
      refine zc_false rfl ?_
      refine zc_exit ?_
      iterate 2 (refine zk_exit_then ?_)
      refine zk_exit_block ?_
      refine zk_seq ?_
      refine zc_seq ?_
      refine zc_region ?_
      refine zl_pureL rfl ?_
      refine zl_nil ?_
      refine zk_seq ?_
      refine zc_ret ?_
      exact zk_ret1 (.inr rfl) rfl rfl ⟨true, rfl, iff_of_true rfl (hd.1 trivial), hC⟩
end Go.Proofs.Ytjiehalanklapaa.D
