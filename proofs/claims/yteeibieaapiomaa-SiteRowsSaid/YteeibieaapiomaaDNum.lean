import Derived.Test.YteeibieaapiomaaDZ
/- Rows copied; texts in order. -/
namespace Go.Proofs.Yteeibieaapiomaa.D
open Go Go.Z Go.Proofs
set_option linter.unusedVariables false
def NewS (B : Nat) (v : Value) : Prop := ∀ k, v.ownBlock = some k → B ≤ k
theorem RdS.cap3 {w : World} {t sz m c : Nat} {A : Option Addr} {cs : List Value} (h : RdS w t sz (.slice A m c) m cs) : RdS w t sz (.slice A m m) m cs := by
  obtain ⟨h1, h2, A', c', h3, h4, h5⟩ := h
  cases h3
  exact ⟨h1, h2, A, m, rfl, Nat.le_refl _, h5⟩
theorem copied_calls {w : World} {v : Value} {l : List At} (h : AttrS w v l) (hl : l.length ≤ 100000) :
    Calls Try.prog 46 [v].toArray w fun e w' => ∃ v', e = .returned v' ∧ AttrS w' v' l ∧ NewS w.heap.size v' ∧ Chg w w' No := by
  obtain ⟨A, c, hv, hc⟩ := h.form
  subst hv
  refine calls_zc (n := 15) (f := 46) (fn := Try.f46) Try.func46 rfl rfl (by simp) ?_
  by_cases h0 : l.length = 0
  · have : l = [] := List.eq_nil_of_length_eq_zero h0
    subst this
    refine zc_seq ?_
    refine zc_region ?_
    refine zl_pureL rfl ?_
    refine zl_nil ?_
    refine zk_seq ?_
    iterate 2 (refine zc_seq ?_)
    refine zc_region ?_
    refine zl_pureL rfl ?_
    refine z_len want_none (by decide) rfl ?_
    refine z_cmpB (r := true) want_none (by decide) rfl rfl rfl (iff_of_true rfl (by omega)) ?_
    refine zl_nil ?_
    refine zk_seq ?_
    refine zc_true rfl ?_
    refine zc_seq ?_
    refine zc_region ?_
    refine zl_pureL rfl ?_
    refine zl_nil ?_
    refine zk_seq ?_
    refine zc_ret ?_
    refine zk_ret_then ?_
    exact zk_ret1 (.inr rfl) rfl rfl ⟨_, rfl, RdS.nil, (fun k hk => by cases hk), Chg.refl _ _⟩
  · refine zc_seq ?_
    refine zc_region ?_
    refine zl_pureL rfl ?_
    refine zl_nil ?_
    refine zk_seq ?_
    iterate 2 (refine zc_seq ?_)
    refine zc_region ?_
    refine zl_pureL rfl ?_
    refine z_len want_none (by decide) rfl ?_
    refine z_cmpB (r := false) want_none (by decide) rfl rfl rfl (iff_of_false Bool.false_ne_true (by omega)) ?_
    refine zl_nil ?_
    refine zk_seq ?_
    refine zc_false rfl ?_
    refine zc_skip ?_
    refine zk_seq ?_
    refine zc_seq ?_
    refine zc_region ?_
    refine zl_pureL rfl ?_
    refine z_appendO (v := .slice none 0 0) (by rfl) (by decide) (by first | exact want_none | exact want_L rfl) (by decide) rfl rfl Own.nil h (by omega) (by omega) (fun v2 w2 hO2 hC2 hr2 => ?_)
    have hC2 := hC2.mono (S' := No) (fun k hk h => by cases h)
    have hO2 : Own w2 89 2 v2 l.length (encA l) := by simpa using hO2
    have hn2 : NewS w.heap.size v2 := fun k hk => by
      rcases hr2 with h1 | ⟨q, h1, h2⟩
      · rw [hk] at h1; cases h1
      · rw [hk] at h1; cases h1; exact h2
    obtain ⟨A2, c2, rfl, hc2⟩ := hO2.rd.form
    have hF := hO2.flat
    refine zl_pureL rfl ?_
    refine zl_nil ?_
    refine zk_seq ?_
    refine zc_seq ?_
    refine zc_region ?_
    iterate 2 (refine zl_pureL rfl ?_)
    refine z_len want_none (by decide) rfl ?_
    refine zl_pureL rfl ?_
    refine z_len want_none (by decide) rfl ?_
    refine zl_run (by first | exact want_none | exact want_L rfl) rfl (by decide) (r_cut3 hF rfl rfl rfl hc2) ?_
    refine zl_pureL rfl ?_
    refine zl_nil ?_
    refine zk_seq ?_
    refine zc_ret ?_
    exact zk_ret1 (.inr rfl) rfl rfl ⟨_, rfl, RdS.cap3 hO2.rd, (fun k hk => hn2 k (by rw [← hk]; cases A2 <;> rfl)), hC2⟩
section
variable {w w' : World} {S : Nat → Prop}
theorem HR.chg {m : MN} {x : Hd} (h : HR w m x) (hc : Chg w w' S) (h45 : ∀ b cells, Blk w b 89 cells → ¬ S b) : HR w' m x := ⟨h.1, h.2.1, h.2.2.1, RdS.chg h.2.2.2.1 hc h45, h.2.2.2.2⟩
theorem Rows.chg (hc : Chg w w' S) (h48 : ∀ b cells, Blk w b 52 cells → ¬ S b) (h45 : ∀ b cells, Blk w b 89 cells → ¬ S b) : ∀ (t : NT) (ms : List MN), Rows w t ms → Rows w' t ms
  | .nil, ms, h => h
  | .cons x k r, ms, h => by
    obtain ⟨m, q, h1, h2, ⟨ks, h3, h4⟩, h5⟩ := h
    exact ⟨m, q, h1, h2.chg hc h45, ⟨ks, h3.chg hc h48, Rows.chg hc h48 h45 k ks h4⟩, Rows.chg hc h48 h45 r q h5⟩
theorem TreeAt.chg {v : Value} {t : NT} (h : TreeAt w v t) (hc : Chg w w' S) (h48 : ∀ b cells, Blk w b 52 cells → ¬ S b) (h45 : ∀ b cells, Blk w b 89 cells → ¬ S b) : TreeAt w' v t := by
  obtain ⟨ms, h1, h2⟩ := h
  exact ⟨ms, h1.chg hc h48, Rows.chg hc h48 h45 t ms h2⟩
/-- what an owned row of another type writes -/
theorem TreeAt.own {v v2 : Value} {t : NT} {ty sz m : Nat} {cs : List Value} (h : TreeAt w v t) (hO : Own w ty sz v2 m cs) (h48 : ty ≠ 52) (h45 : ty ≠ 89) (hc : Chg w w' (fun k => v2.ownBlock = some k)) : TreeAt w' v t :=
  h.chg hc (fun b cells hb he => hO.ne he hb h48 rfl) (fun b cells hb he => hO.ne he hb h45 rfl)
end
/-! texts -/
def txts : NT → List ByteArray
  | .nil => []
  | .cons x k r => (if x.kind = 2 then [x.text] else []) ++ txts k ++ txts r
theorem txts_len : ∀ t : NT, (txts t).length ≤ t.size
  | .nil => Nat.le_refl _
  | .cons x k r => by
    have := txts_len k; have := txts_len r
    simp only [txts, NT.size, List.length_append]
    split <;> simp <;> omega
def strC (l : List ByteArray) : List Value := l.map Value.string
theorem strC_len (l : List ByteArray) : (strC l).length = l.length * 1 := by simp [strC]
theorem strC_one (l : List ByteArray) : ∀ u ∈ strC l, u.oneCell' = true := by
  intro u hu
  obtain ⟨s, _, rfl⟩ := List.mem_map.1 hu
  rfl
theorem strC_app (l r : List ByteArray) : strC (l ++ r) = strC l ++ strC r := List.map_append
/-- a row of strings that is told: made since a heap of size B -/
def Strs (w : World) (B : Nat) (v : Value) (l : List ByteArray) : Prop := Own w 9 1 v l.length (strC l) ∧ NewS B v
theorem Strs.no {w w' : World} {B : Nat} {v : Value} {l : List ByteArray} (h : Strs w B v l) (hc : Chg w w' No) : Strs w' B v l := ⟨h.1.no hc, h.2⟩
theorem Strs.form {w : World} {B : Nat} {v : Value} {l : List ByteArray} (h : Strs w B v l) : ∃ A c, v = .slice A l.length c ∧ l.length ≤ c := h.1.rd.form
theorem Strs.nil {w : World} {B : Nat} : Strs w B (.slice none 0 0) [] := ⟨Own.nil, fun k hk => by cases hk⟩
theorem NewS.app {w : World} {B : Nat} {v v' : Value} (hn : NewS B v) (hB : B ≤ w.heap.size) (hr : v'.ownBlock = v.ownBlock ∨ ∃ k, v'.ownBlock = some k ∧ w.heap.size ≤ k) : NewS B v' := by
  intro j hj
  rcases hr with h1 | ⟨q, h1, h2⟩
  · exact hn j (h1 ▸ hj)
  · rw [hj] at h1; cases h1; omega
theorem Chg.newS {w w1 w2 : World} {v : Value} (h : Chg w w1 No) (hc : Chg w1 w2 (fun k => v.ownBlock = some k)) (hn : NewS w.heap.size v) : Chg w w2 No :=
  h.trans hc (fun i hi he => by have := hn i he; omega)
theorem RdS.str1 {w w' : World} {b : Nat} {s : ByteArray} (h : New w w' b 9 [.string s]) : RdS w' 9 1 (.slice (some ⟨b, 0, none⟩) 1 1) 1 (strC [s]) :=
  RdS.new h rfl (strC_one [s])
set_option maxHeartbeats 4000000 in
theorem textsR_calls : ∀ (f : Nat) {w : World} {v : Value} {t : NT}, TreeAt w v t → FewT t → t.size ≤ f → f ≤ 100000 →
    Calls Try.prog 40 [v].toArray w fun e w' => ∃ vo, e = .returned vo ∧ Strs w' w.heap.size vo (txts t) ∧ Chg w w' No := by
  intro f
  induction f with
  | zero =>
    intro w v t h hfew hs _
    cases t with
    | cons x k r => simp [NT.size] at hs
    | nil =>
      obtain ⟨A, c, rfl, hc⟩ := h.form
      refine calls_zc (n := 34) (f := 40) (fn := Try.f40) Try.func40 rfl rfl (by simp) ?_
      refine zc_seq ?_
      refine zc_region ?_
      refine zl_pureL rfl ?_
      refine zl_nil ?_
      refine zk_seq ?_
      refine zc_seq ?_
      refine zc_region ?_
      refine zl_pureL rfl ?_
      refine zl_nil ?_
      refine zk_seq ?_
      iterate 2 (refine zc_seq ?_)
      refine zc_region ?_
      refine zl_pureL rfl ?_
      refine zl_nil ?_
      refine zk_seq ?_
      refine zc_block ?_
      refine zc_loopW (ι := Nat) (fun i u => [(0, .slice A 0 c), (3, .slice none 0 0), (4, .int .i64 0)]) (fun i u => u = w) (fun i u => 0) 0 rfl ?_ ?_
      · exact ⟨rfl, rfl, rfl, trivial⟩
      rintro i u rfl
      iterate 2 (refine zc_seq ?_)
      refine zc_region ?_
      iterate 2 (refine zl_pureL rfl ?_)
      refine z_len want_none (by decide) rfl ?_
      refine z_cmpB (r := false) want_none (by decide) rfl rfl rfl (iff_of_false Bool.false_ne_true (by omega)) ?_
      refine zl_nil ?_
      refine zk_seq ?_
      refine zc_false rfl ?_
      refine zc_exit ?_
      iterate 2 (refine zk_exit_then ?_)
      refine zk_exit_block ?_
      refine zk_seq ?_
      refine zc_seq ?_
      refine zc_region ?_
      iterate 2 (refine zl_pureL rfl ?_)
      refine zl_nil ?_
      refine zk_seq ?_
      refine zc_ret ?_
      exact zk_ret1 (.inr rfl) rfl rfl ⟨_, rfl, Strs.nil, Chg.refl _ _⟩
  | succ f ih =>
    intro w v t h hfew hs hf
    obtain ⟨A, c, hv, hc⟩ := h.form
    have hls := t.len_size
    have htl := txts_len t
    subst hv
    refine calls_zc (n := 34) (f := 40) (fn := Try.f40) Try.func40 rfl rfl (by simp) ?_
    refine zc_seq ?_
    refine zc_region ?_
    refine zl_pureL rfl ?_
    refine zl_nil ?_
    refine zk_seq ?_
    refine zc_seq ?_
    refine zc_region ?_
    refine zl_pureL rfl ?_
    refine zl_nil ?_
    refine zk_seq ?_
    iterate 2 (refine zc_seq ?_)
    refine zc_region ?_
    refine zl_pureL rfl ?_
    refine zl_nil ?_
    refine zk_seq ?_
    refine zc_block ?_
    refine zc_loopW (ι := Nat × Value × List ByteArray) (fun q u => [(0, .slice A t.len c), (3, q.2.1), (4, .int .i64 q.1)])
      (fun q u => q.1 ≤ t.len ∧ Strs u w.heap.size q.2.1 q.2.2 ∧ q.2.2 ++ txts (t.dropN q.1) = txts t ∧ Chg w u No) (fun q u => t.len - q.1) (0, .slice none 0 0, []) ⟨Nat.zero_le _, Strs.nil, rfl, Chg.refl _ _⟩ ?_ ?_
    · exact ⟨rfl, rfl, rfl, trivial⟩
    rintro ⟨i, vo, L⟩ u ⟨hi, hL, hd, hC⟩
    dsimp only at hi hL hd ⊢
    by_cases hlt : i < t.len
    · obtain ⟨b, o, c', x, k, r, A', K, e1, hv, hN, hA, hK⟩ := (h.no hC).at_ i hlt
      cases hv
      have hsz := t.drop_size i
      rw [e1] at hsz hd
      simp only [NT.size] at hsz
      obtain ⟨hxa, hfk, hfr⟩ := hfew.drop t i x k r e1
      have hkl := txts_len k
      have hLl : L.length ≤ t.size := by have := congrArg List.length hd; rw [List.length_append] at this; omega
      obtain ⟨A0, c0, rfl, _⟩ := hL.form
      iterate 2 (refine zc_seq ?_)
      refine zc_region ?_
      iterate 2 (refine zl_pureL rfl ?_)
      refine z_len want_none (by decide) rfl ?_
      refine z_cmpB (r := true) want_none (by decide) rfl rfl rfl (iff_of_true rfl (by omega)) ?_
      refine zl_nil ?_
      refine zk_seq ?_
      refine zc_true rfl ?_
      refine zc_skip ?_
      refine zk_seq ?_
      refine zc_seq ?_
      refine zc_block ?_
      iterate 2 (refine zc_seq ?_)
      refine zc_region ?_
      iterate 2 (refine zl_pureL rfl ?_)
      refine z_ia want_none (by decide) rfl rfl (by omega) (by omega) ?_
      refine z_fa want_none (by decide) rfl ?_
      refine z_load1 (by first | exact want_none | exact want_L rfl) (by decide) rfl (cell_at hN.c0 (by omega)) ?_
      refine z_cmpB (r := decide (x.kind = 2)) (by first | exact want_none | exact want_L rfl) (by decide) rfl rfl rfl (by simp) ?_
      refine zl_nil ?_
      refine zk_seq ?_
      refine zc_midTX (ι := Value × List ByteArray) (fun q u' => Strs u' w.heap.size q.1 q.2 ∧ q.2 = L ++ (if x.kind = 2 then [x.text] else []) ∧ Chg w u' No)
        (fun q => [(0, .slice (some ⟨b, o, none⟩) t.len c), (3, q.1), (4, .int .i64 i)]) ?_ ?_
      · by_cases hk2 : x.kind = 2
        · rw [decide_eq_true hk2]
          refine zc_true rfl ?_
          refine zc_region ?_
          iterate 3 (refine zl_pureL rfl ?_)
          refine z_ia want_none (by decide) rfl rfl (by omega) (by omega) ?_
          refine z_fa want_none (by decide) rfl ?_
          refine z_load1 (by first | exact want_none | exact want_L rfl) (by decide) rfl (cell_at hN.c4 (by omega)) ?_
          refine z_bs1 (by first | exact want_none | exact want_L rfl) (by decide) rfl (by rfl) (by rfl) (by decide) (by decide) (fun u3 b3 hN3 => ?_)
          refine z_appendO (by rfl) (by decide) (by first | exact want_none | exact want_L rfl) (by decide) rfl rfl (hL.1.no hN3.chg) (RdS.str1 hN3) (by omega) (by omega) (fun v4 u4 hO4 hC4 hr4 => ?_)
          have hC3 := hC.new hN3
          have hC4' := Chg.newS hC3 hC4 hL.2
          refine zl_pureL rfl ?_
          refine zl_nil ?_
          refine zk_midX (v4, L ++ [x.text]) ⟨⟨by rw [strC_app, List.length_append]; exact hO4, hL.2.app hC3.size hr4⟩, by rw [if_pos hk2], hC4'⟩ ⟨rfl, rfl, rfl, trivial⟩
        · rw [decide_eq_false hk2]
          refine zc_false rfl ?_
          refine zc_skip ?_
          exact zk_midX (.slice A0 L.length c0, L) ⟨hL, by rw [if_neg hk2]; simp, hC⟩ ⟨rfl, rfl, rfl, trivial⟩
      rintro ⟨v5, L5⟩ u5 ⟨hL5, rfl, hC5⟩
      obtain ⟨b', o', c'', x', k', r', A'', K', e2, hv', hN5, hA5, hK5⟩ := (h.no hC5).at_ i hlt
      cases hv'
      rw [e1] at e2
      cases e2
      dsimp only at hL5 ⊢
      obtain ⟨A5, c5, rfl, _⟩ := hL5.form
      refine zc_region ?_
      iterate 3 (refine zl_pureL rfl ?_)
      refine z_ia want_none (by decide) rfl rfl (by omega) (by omega) ?_
      refine z_fa want_none (by decide) rfl ?_
      refine z_load1 (by first | exact want_none | exact want_L rfl) (by decide) rfl (cell_at hN5.c6 (by omega)) ?_
      refine zl_call (by first | exact want_none | exact want_L rfl) rfl (by decide) rfl (ih hK5 hfk (by omega) (by omega)) ?_
      rintro _ u6 ⟨v6, rfl, hL6, hC6⟩
      refine ⟨_, rfl, ?_⟩
      obtain ⟨A6, c6, rfl, _⟩ := hL6.form
      have hl5 : (L ++ if x.kind = 2 then [x.text] else []).length ≤ L.length + 1 := by split <;> simp
      refine z_appendO (by rfl) (by decide) (by first | exact want_none | exact want_L rfl) (by decide) rfl rfl (hL5.1.no hC6) hL6.1.rd (by omega) (by omega) (fun v7 u7 hO7 hC7 hr7 => ?_)
      have hC6' := hC5.no hC6
      refine zl_pureL rfl ?_
      refine zl_nil ?_
      refine zk_norm_block ?_
      refine zk_seq ?_
      refine zc_region ?_
      refine zl_pureL rfl ?_
      refine z_add want_none (by decide) rfl rfl (by omega) (by omega) ?_
      refine zl_pureL rfl ?_
      refine zl_nil ?_
      refine zk_loopW (i + 1, v7, (L ++ if x.kind = 2 then [x.text] else []) ++ txts k) ⟨by omega, ⟨by rw [strC_app, List.length_append]; exact hO7, hL5.2.app hC6'.size hr7⟩, ?_, Chg.newS hC6' hC7 hL5.2⟩ (by show t.len - (i + 1) < t.len - i; omega) ⟨rfl, rfl, get_int rfl (by simp), trivial⟩
      dsimp only
      rw [t.drop_succ i x k r e1, ← hd]
      simp only [txts, List.append_assoc]
    · obtain rfl : i = t.len := by omega
      rw [t.drop_len] at hd
      simp only [txts, List.append_nil] at hd
      subst hd
      iterate 2 (refine zc_seq ?_)
      refine zc_region ?_
      iterate 2 (refine zl_pureL rfl ?_)
      refine z_len want_none (by decide) rfl ?_
      refine z_cmpB (r := false) want_none (by decide) rfl rfl rfl (iff_of_false Bool.false_ne_true (by omega)) ?_
      refine zl_nil ?_
      refine zk_seq ?_
      refine zc_false rfl ?_
      refine zc_exit ?_
      iterate 2 (refine zk_exit_then ?_)
      refine zk_exit_block ?_
      refine zk_seq ?_
      refine zc_seq ?_
      refine zc_region ?_
      iterate 2 (refine zl_pureL rfl ?_)
      refine zl_nil ?_
      refine zk_seq ?_
      refine zc_ret ?_
      exact zk_ret1 (.inr rfl) rfl rfl ⟨_, rfl, hL, hC⟩
end Go.Proofs.Yteeibieaapiomaa.D
