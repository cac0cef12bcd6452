import Derived.Test.YtjiehalanklapaaDSmall
/- Nodes that are handed in: what of them is known. How deep they are. -/
namespace Go.Proofs.Ytjiehalanklapaa.V
open Go Go.Z Go.Proofs Go.Proofs.Ytjiehalanklapaa.D
set_option linter.unusedVariables false
/-- a row of which only the cells are known -/
def RdW (w : World) (sz : Nat) (v : Value) (m : Nat) (cs : List Value) : Prop :=
  cs.length = m * sz ∧ (∀ u ∈ cs, u.oneCell' = true) ∧ ∃ A c, v = .slice A m c ∧ m ≤ c ∧ (0 < m → ∃ b o, A = some ⟨b, o, none⟩ ∧ ∀ j u, cs[j]? = some u → w.cell? ⟨b, o + j, none⟩ = some u)
theorem RdW.of {w : World} {t sz m : Nat} {v : Value} {cs : List Value} (h : RdS w t sz v m cs) : RdW w sz v m cs := by
  obtain ⟨h1, h2, A, c, h3, h4, h5⟩ := h
  refine ⟨h1, h2, A, c, h3, h4, fun hm => ?_⟩
  obtain ⟨b, o, cells, h6, h7, h8⟩ := h5 hm
  exact ⟨b, o, h6, fun j u hj => by rw [h7.cell]; exact h8 j u hj⟩
theorem RdW.no {w w' : World} {sz m : Nat} {v : Value} {cs : List Value} (h : RdW w sz v m cs) (hc : Chg w w' No) : RdW w' sz v m cs := by
  obtain ⟨h1, h2, A, c, h3, h4, h5⟩ := h
  refine ⟨h1, h2, A, c, h3, h4, fun hm => ?_⟩
  obtain ⟨b, o, h6, h7⟩ := h5 hm
  exact ⟨b, o, h6, fun j u hj => cell_no hc (h7 j u hj)⟩
theorem RdW.nil {w : World} {sz : Nat} : RdW w sz (.slice none 0 0) 0 [] := ⟨by simp, by simp, none, 0, rfl, Nat.le_refl _, fun h => absurd h (Nat.lt_irrefl 0)⟩
theorem RdW.form {w : World} {sz m : Nat} {v : Value} {cs : List Value} (h : RdW w sz v m cs) : ∃ A c, v = .slice A m c ∧ m ≤ c := by
  obtain ⟨_, _, A, c, h3, h4, _⟩ := h; exact ⟨A, c, h3, h4⟩
theorem RdW.some {w : World} {sz m : Nat} {v : Value} {cs : List Value} (h : RdW w sz v m cs) (hm : 0 < m) : ∃ b o c, v = .slice (some ⟨b, o, none⟩) m c ∧ m ≤ c ∧ ∀ j u, cs[j]? = Option.some u → w.cell? ⟨b, o + j, none⟩ = Option.some u := by
  obtain ⟨_, _, A, c, h3, h4, h5⟩ := h
  obtain ⟨b, o, h6, h7⟩ := h5 hm
  exact ⟨b, o, c, by rw [h3, h6], h4, h7⟩
def AttrS (w : World) (v : Value) (l : List At) : Prop := RdW w 2 v l.length (encA l)
theorem AttrS.form {w : World} {v : Value} {l : List At} (h : AttrS w v l) : ∃ A c, v = .slice A l.length c ∧ l.length ≤ c := RdW.form h
theorem AttrS.no {w w' : World} {v : Value} {l : List At} (h : AttrS w v l) (hc : Chg w w' No) : AttrS w' v l := RdW.no h hc
theorem AttrS.nil (w : World) : AttrS w (.slice none 0 0) [] := RdW.nil
theorem AttrS.at_ {w : World} {v : Value} {l : List At} (h : AttrS w v l) (i : Nat) (hi : i < l.length) : ∃ b o c, v = .slice (some ⟨b, o, none⟩) l.length c ∧ w.cell? ⟨b, o + i * 2, none⟩ = some (.string (l.getD i at0).1) ∧ w.cell? ⟨b, o + i * 2 + 1, none⟩ = some (.string (l.getD i at0).2) := by
  obtain ⟨b, o, c, hv, _, hc⟩ := RdW.some h (by omega)
  obtain ⟨e1, e2⟩ := encA_get l i hi
  exact ⟨b, o, c, hv, hc _ _ e1, by have := hc _ _ e2; rwa [← Nat.add_assoc] at this⟩
def HR (w : World) (m : MN) (x : Hd) : Prop := m.kind = x.kind ∧ m.space = x.space ∧ m.name = x.name ∧ AttrS w m.attrs x.attrs ∧ m.text = x.text ∧ m.fr = x.fr
def Rows (w : World) : NT → List MN → Prop
  | .nil, ms => ms = []
  | .cons x k r, ms => ∃ m q, ms = m :: q ∧ HR w m x ∧ (∃ ks, RdW w 7 m.kids ks.length (encN ks) ∧ Rows w k ks) ∧ Rows w r q
/-- a slice of nodes -/
def TreeAt (w : World) (v : Value) (t : NT) : Prop := ∃ ms, RdW w 7 v ms.length (encN ms) ∧ Rows w t ms
section
variable {w w' : World} {v : Value} {t : NT}
theorem HR.no {m : MN} {x : Hd} (h : HR w m x) (hc : Chg w w' No) : HR w' m x := ⟨h.1, h.2.1, h.2.2.1, h.2.2.2.1.no hc, h.2.2.2.2⟩
theorem Rows.no (hc : Chg w w' No) : ∀ (t : NT) (ms : List MN), Rows w t ms → Rows w' t ms
  | .nil, ms, h => h
  | .cons x k r, ms, h => by
    obtain ⟨m, q, h1, h2, ⟨ks, h3, h4⟩, h5⟩ := h
    exact ⟨m, q, h1, h2.no hc, ⟨ks, h3.no hc, Rows.no hc k ks h4⟩, Rows.no hc r q h5⟩
theorem Rows.len : ∀ (t : NT) (ms : List MN), Rows w t ms → ms.length = t.len
  | .nil, ms, h => by cases h; rfl
  | .cons x k r, ms, h => by
    obtain ⟨m, q, h1, _, _, h5⟩ := h
    subst h1
    simp only [List.length_cons, NT.len, Rows.len r q h5]
theorem Rows.at_ : ∀ (t : NT) (ms : List MN) (i : Nat), Rows w t ms → i < t.len → ∃ x k r, t.dropN i = .cons x k r ∧ HR w (ms.getD i MN.z) x ∧ TreeAt w (ms.getD i MN.z).kids k
  | .nil, ms, i, h, hi => by simp [NT.len] at hi
  | .cons x k r, ms, 0, h, hi => by
    obtain ⟨m, q, rfl, h2, h3, h5⟩ := h
    exact ⟨x, k, r, rfl, h2, h3⟩
  | .cons x k r, ms, i + 1, h, hi => by
    obtain ⟨m, q, rfl, h2, h3, h5⟩ := h
    exact Rows.at_ r q i h5 (by simp only [NT.len] at hi; omega)
theorem TreeAt.no (h : TreeAt w v t) (hc : Chg w w' No) : TreeAt w' v t := by
  obtain ⟨ms, h1, h2⟩ := h
  exact ⟨ms, h1.no hc, Rows.no hc t ms h2⟩
theorem TreeAt.form (h : TreeAt w v t) : ∃ A c, v = .slice A t.len c ∧ t.len ≤ c := by
  obtain ⟨ms, h1, h2⟩ := h
  have := h1.form
  rwa [Rows.len t ms h2] at this
theorem TreeAt.nil : TreeAt w (.slice none 0 0) .nil := ⟨[], RdW.nil, rfl⟩
theorem TreeAt.at_ (h : TreeAt w v t) (i : Nat) (hi : i < t.len) : ∃ b o c x k r A K, t.dropN i = .cons x k r ∧ v = .slice (some ⟨b, o, none⟩) t.len c ∧ NodeC w b (o + i * 7) x A K ∧ AttrS w A x.attrs ∧ TreeAt w K k := by
  obtain ⟨ms, h1, h2⟩ := h
  have hlen := Rows.len t ms h2
  obtain ⟨b, o, c, hv, _, hc⟩ := h1.some (by omega)
  obtain ⟨x, k, r, e1, ⟨g0, g1, g2, g3, g4, g5⟩, e3⟩ := Rows.at_ t ms i h2 hi
  have hg := encN_get ms i (by omega)
  refine ⟨b, o, c, x, k, r, (ms.getD i MN.z).attrs, (ms.getD i MN.z).kids, e1, by rw [hv, hlen], ?_, g3, e3⟩
  constructor
  · have := hc _ _ (hg 0 _ rfl); rw [← g0]; exact this
  · have := hc _ _ (hg 1 _ rfl); rw [← g1]; rw [Nat.add_assoc]; exact this
  · have := hc _ _ (hg 2 _ rfl); rw [← g2]; rw [Nat.add_assoc]; exact this
  · have := hc _ _ (hg 3 _ rfl); rw [Nat.add_assoc]; exact this
  · have := hc _ _ (hg 4 _ rfl); rw [← g4]; rw [Nat.add_assoc]; exact this
  · have := hc _ _ (hg 5 _ rfl); rw [← g5]; rw [Nat.add_assoc]; exact this
  · have := hc _ _ (hg 6 _ rfl); rw [Nat.add_assoc]; exact this
end
theorem Rows.of {w : World} : ∀ (t : NT) (ms : List MN), D.Rows w t ms → Rows w t ms
  | .nil, ms, h => h
  | .cons x k r, ms, h => by
    obtain ⟨m, q, h1, h2, ⟨ks, h3, h4⟩, h5⟩ := h
    exact ⟨m, q, h1, ⟨h2.1, h2.2.1, h2.2.2.1, RdW.of h2.2.2.2.1, h2.2.2.2.2⟩, ⟨ks, RdW.of h3, Rows.of k ks h4⟩, Rows.of r q h5⟩
theorem TreeAt.of {w : World} {v : Value} {t : NT} (h : D.TreeAt w v t) : TreeAt w v t := by
  obtain ⟨ms, h1, h2⟩ := h
  exact ⟨ms, RdW.of h1, Rows.of t ms h2⟩
set_option maxHeartbeats 2000000 in
theorem deep_calls : ∀ (f : Nat) {w : World} {v : Value} {t : NT}, TreeAt w v t → t.size ≤ f → f ≤ 100000 →
    Calls Try.prog 28 [v].toArray w fun e w' => e = .returned (.int .i64 (deepT t)) ∧ Chg w w' No := by
  intro f
  induction f with
  | zero =>
    intro w v t h hs _
    cases t with
    | cons x k r => simp [NT.size] at hs
    | nil =>
      obtain ⟨A, c, rfl, hc⟩ := h.form
      refine calls_zc (n := 20) (f := 28) (fn := Try.f28) Try.func28 rfl rfl (by simp) ?_
      refine zc_seq ?_
      refine zc_region ?_
      refine zl_pureL rfl ?_
      refine zl_nil ?_
      refine zk_seq ?_
      refine zc_seq ?_
      refine zc_region ?_
      refine zl_pureL rfl ?_
      refine zl_nil ?_
      refine zk_seq ?_
      iterate 2 (refine zc_seq ?_)
      refine zc_region ?_
      refine zl_pureL rfl ?_
      refine z_len want_none (by decide) rfl ?_
      refine zl_pureL rfl ?_
      refine zl_nil ?_
      refine zk_seq ?_
      refine zc_block ?_
      refine zc_loopW (ι := Nat) (fun i u => [(3, .int .i64 (-1)), (6, .slice A 0 c), (7, .int .i64 0), (8, .int .i64 0)]) (fun i u => u = w) (fun i u => 0) 0 rfl ?_ ?_
      · exact ⟨rfl, rfl, rfl, rfl, trivial⟩
      rintro i u rfl
      refine zc_seq ?_
      refine zc_region ?_
      refine z_cmpB (r := false) want_none (by decide) rfl rfl rfl (iff_of_false Bool.false_ne_true (by omega)) ?_
      refine zl_nil ?_
      refine zk_seq ?_
      refine zc_seq ?_
      refine zc_false rfl ?_
      refine zc_exit ?_
      iterate 2 (refine zk_exit_then ?_)
      refine zk_exit_block ?_
      refine zk_seq ?_
      refine zc_seq ?_
      refine zc_region ?_
      refine zl_pureL rfl ?_
      refine z_add want_none (by decide) rfl rfl (by omega) (by omega) ?_
      refine zl_pureL rfl ?_
      refine zl_nil ?_
      refine zk_seq ?_
      refine zc_ret ?_
      exact zk_ret1 (.inr rfl) rfl rfl ⟨rfl, Chg.refl _ _⟩
  | succ f ih =>
    intro w v t h hs hf
    obtain ⟨A, c, hv, hc⟩ := h.form
    have hls := t.len_size
    subst hv
    refine calls_zc (n := 20) (f := 28) (fn := Try.f28) Try.func28 rfl rfl (by simp) ?_
    refine zc_seq ?_
    refine zc_region ?_
    refine zl_pureL rfl ?_
    refine zl_nil ?_
    refine zk_seq ?_
    refine zc_seq ?_
    refine zc_region ?_
    refine zl_pureL rfl ?_
    refine zl_nil ?_
    refine zk_seq ?_
    iterate 2 (refine zc_seq ?_)
    refine zc_region ?_
    refine zl_pureL rfl ?_
    refine z_len want_none (by decide) rfl ?_
    refine zl_pureL rfl ?_
    refine zl_nil ?_
    refine zk_seq ?_
    refine zc_block ?_
    refine zc_loopW (ι := Nat × Nat) (fun q u => [(3, .int .i64 ((q.2 : Int) - 1)), (6, .slice A t.len c), (7, .int .i64 t.len), (8, .int .i64 q.1)])
      (fun q u => q.1 ≤ t.len ∧ q.2 ≤ t.size ∧ max q.2 (deepT (t.dropN q.1)) = deepT t ∧ Chg w u No) (fun q u => t.len - q.1) (0, 0) ⟨Nat.zero_le _, Nat.zero_le _, Nat.zero_max _, Chg.refl _ _⟩ ?_ ?_
    · exact ⟨rfl, rfl, rfl, rfl, trivial⟩
    rintro ⟨i, m⟩ u ⟨hi, hm, hd, hC⟩
    dsimp only at hi hm hd ⊢
    by_cases hlt : i < t.len
    · obtain ⟨b, o, c', x, k, r, A', K, e1, hv, hN, hA, hK⟩ := (h.no hC).at_ i hlt
      cases hv
      have hsz := t.drop_size i
      rw [e1] at hsz hd
      simp only [NT.size] at hsz
      have hdk := deepT_le k
      obtain ⟨A2, c2, rfl, _⟩ := hA.form
      obtain ⟨A3, c3, rfl, _⟩ := hK.form
      refine zc_seq ?_
      refine zc_region ?_
      refine z_cmpB (r := true) want_none (by decide) rfl rfl rfl (iff_of_true rfl (by omega)) ?_
      refine zl_nil ?_
      refine zk_seq ?_
      refine zc_seq ?_
      refine zc_true rfl ?_
      refine zc_skip ?_
      refine zk_seq ?_
      refine zc_seq ?_
      refine zc_block ?_
      refine zc_seq ?_
      refine zc_region ?_
      refine z_ia want_none (by decide) rfl rfl (by omega) (by omega) ?_
      refine z_loadA (by rfl) (by first | exact want_none | exact want_L rfl) (by decide) rfl (hN.agg (by omega)) ?_
      refine z_alloc (by first | exact want_none | exact want_L rfl) (by decide) (fun u1 b1 hN1 => ?_)
      have hb1 : Blk u1 b1 48 [.int .i64 0, .int .i64 0, .string ⟨#[]⟩, .slice none 0 0, .string ⟨#[]⟩, .int .i64 0, .slice none 0 0] := hN1.blk
      skip
      refine z_store (by first | exact want_none | exact want_L rfl) rfl rfl rfl (by assumption) (by first | exact Nat.le_refl _ | simp [Value.cells]) (by simp [Value.cells, Value.oneCell']) (fun u2 hU2 => ?_)
      have hb2 : Blk u2 b1 48 [.int .i64 x.kind, .int .i64 x.space, .string x.name, .slice A2 x.attrs.length c2, .string x.text, .int .i64 x.fr, .slice A3 k.len c3] := hU2.blk
      have hC2 := hN1.chg.upd hU2 (hN1.ge (Chg.refl _ No))
      refine zl_nil ?_
      refine zk_seq ?_
      refine zc_region ?_
      refine zl_pureL rfl ?_
      refine z_fa want_none (by decide) rfl ?_
      refine z_loadB want_none (by decide) rfl (by assumption) (by rfl) ?_
      refine zl_call (by first | exact want_none | exact want_L rfl) rfl (by decide) rfl (ih (hK.no hC2) (by omega) (by omega)) ?_
      rintro _ u3 ⟨rfl, hC3⟩
      refine ⟨_, rfl, ?_⟩
      refine z_max (((max m (1 + deepT k) : Nat) : Int) - 1) (by first | exact want_none | exact want_L rfl) (by decide) rfl rfl (by split <;> omega) ?_
      refine zl_pureL rfl ?_
      refine zl_nil ?_
      refine zk_norm_block ?_
      refine zk_seq ?_
      refine zc_region ?_
      refine z_add want_none (by decide) rfl rfl (by omega) (by omega) ?_
      refine zl_pureL rfl ?_
      refine zl_nil ?_
      refine zk_loopW (i + 1, max m (1 + deepT k)) ⟨by omega, by show max m (1 + deepT k) ≤ _; omega, ?_, (hC.no hC2).no hC3⟩ (by show t.len - (i + 1) < t.len - i; omega) ⟨rfl, rfl, rfl, get_int rfl (by simp), trivial⟩
      dsimp only
      rw [t.drop_succ i x k r e1, ← hd]
      simp only [deepT]; omega
    · obtain rfl : i = t.len := by omega
      rw [t.drop_len] at hd
      simp only [deepT, Nat.max_zero] at hd
      subst hd
      refine zc_seq ?_
      refine zc_region ?_
      refine z_cmpB (r := false) want_none (by decide) rfl rfl rfl (iff_of_false Bool.false_ne_true (by omega)) ?_
      refine zl_nil ?_
      refine zk_seq ?_
      refine zc_seq ?_
      refine zc_false rfl ?_
      refine zc_exit ?_
      iterate 2 (refine zk_exit_then ?_)
      refine zk_exit_block ?_
      refine zk_seq ?_
      refine zc_seq ?_
      refine zc_region ?_
      refine zl_pureL rfl ?_
      refine z_add want_none (by decide) rfl rfl (by omega) (by omega) ?_
      refine zl_pureL rfl ?_
      refine zl_nil ?_
      refine zk_seq ?_
      refine zc_ret ?_
      exact zk_ret1 (.inr rfl) rfl rfl ⟨by congr 2; omega, hC⟩
end Go.Proofs.Ytjiehalanklapaa.V
