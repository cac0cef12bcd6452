import Derived.Test.YteeibieaapiomaaDNum
/- Trees whose rows lie in some set of blocks; a row of nodes that grows. -/
namespace Go.Z
open Go
theorem RdS.chgAt {w w' : World} {t sz m : Nat} {v : Value} {cs : List Value} {S : Nat → Prop} (h : RdS w t sz v m cs) (hc : Chg w w' S) (hS : 0 < m → ∀ b cells, v.ownBlock = Option.some b → Blk w b t cells → ¬ S b) : RdS w' t sz v m cs := by
  obtain ⟨h1, h2, A, c, h3, h4, h5⟩ := h
  refine ⟨h1, h2, A, c, h3, h4, fun hm => ?_⟩
  obtain ⟨b, o, cells, h6, h7, h8⟩ := h5 hm
  exact ⟨b, o, cells, h6, h7.chg hc (hS hm b cells (by rw [h3, h6]; rfl) h7), h8⟩
theorem RdS.ownLt {w : World} {t sz m : Nat} {v : Value} {cs : List Value} (h : RdS w t sz v m cs) (hm : 0 < m) {b : Nat} (hb : v.ownBlock = Option.some b) : b < w.heap.size := by
  obtain ⟨h1, h2, A, c, h3, h4, h5⟩ := h
  obtain ⟨b', o, cells, h6, h7, h8⟩ := h5 hm
  rw [h3, h6] at hb
  simp [Value.ownBlock] at hb
  subst hb
  exact h7.lt
theorem RdS.ownBlk {w : World} {t sz m : Nat} {v : Value} {cs : List Value} (h : RdS w t sz v m cs) (hm : 0 < m) : ∃ b, v.ownBlock = Option.some b := by
  obtain ⟨h1, h2, A, c, h3, h4, h5⟩ := h
  obtain ⟨b', o, cells, h6, h7, h8⟩ := h5 hm
  exact ⟨b', by rw [h3, h6]; rfl⟩
end Go.Z
namespace Go.Proofs.Yteeibieaapiomaa.D
open Go Go.Z Go.Proofs
set_option linter.unusedVariables false
def RowsOk (w : World) (o8 o5 : Nat → Prop) : NT → List MN → Prop
  | .nil, ms => ms = []
  | .cons x k r, ms => ∃ m q, ms = m :: q ∧ HR w m x ∧ (0 < x.attrs.length → ∀ b, m.attrs.ownBlock = some b → o5 b) ∧
    (∃ ks, RdS w 52 7 m.kids ks.length (encN ks) ∧ (0 < ks.length → ∀ b, m.kids.ownBlock = some b → o8 b) ∧ RowsOk w o8 o5 k ks) ∧ RowsOk w o8 o5 r q
def TreeOk (w : World) (o8 o5 : Nat → Prop) (v : Value) (t : NT) : Prop := ∃ ms, RdS w 52 7 v ms.length (encN ms) ∧ (0 < ms.length → ∀ b, v.ownBlock = some b → o8 b) ∧ RowsOk w o8 o5 t ms
section
variable {w w' : World} {o8 o8' o5 o5' : Nat → Prop} {S : Nat → Prop}
theorem RowsOk.rows : ∀ (t : NT) (ms : List MN), RowsOk w o8 o5 t ms → Rows w t ms
  | .nil, ms, h => h
  | .cons x k r, ms, h => by
    obtain ⟨m, q, h1, h2, h3, ⟨ks, h4, h5, h6⟩, h7⟩ := h
    exact ⟨m, q, h1, h2, ⟨ks, h4, RowsOk.rows k ks h6⟩, RowsOk.rows r q h7⟩
theorem TreeOk.at' {v : Value} {t : NT} (h : TreeOk w o8 o5 v t) : TreeAt w v t := by
  obtain ⟨ms, h1, _, h2⟩ := h
  exact ⟨ms, h1, RowsOk.rows t ms h2⟩
theorem RowsOk.of : ∀ (t : NT) (ms : List MN), Rows w t ms → RowsOk w (fun _ => True) (fun _ => True) t ms
  | .nil, ms, h => h
  | .cons x k r, ms, h => by
    obtain ⟨m, q, h1, h2, ⟨ks, h4, h6⟩, h7⟩ := h
    exact ⟨m, q, h1, h2, fun _ _ _ => trivial, ⟨ks, h4, fun _ _ _ => trivial, RowsOk.of k ks h6⟩, RowsOk.of r q h7⟩
theorem RowsOk.mono (h8 : ∀ b, b < w.heap.size → o8 b → o8' b) (h5 : ∀ b, b < w.heap.size → o5 b → o5' b) : ∀ (t : NT) (ms : List MN), RowsOk w o8 o5 t ms → RowsOk w o8' o5' t ms
  | .nil, ms, h => h
  | .cons x k r, ms, h => by
    obtain ⟨m, q, h1, h2, h3, ⟨ks, h4, h6, h7⟩, h9⟩ := h
    exact ⟨m, q, h1, h2, fun hl b hb => h5 b (RdS.ownLt h2.2.2.2.1 hl hb) (h3 hl b hb), ⟨ks, h4, fun hl b hb => h8 b (RdS.ownLt h4 hl hb) (h6 hl b hb), RowsOk.mono h8 h5 k ks h7⟩, RowsOk.mono h8 h5 r q h9⟩
theorem TreeOk.mono {v : Value} {t : NT} (h : TreeOk w o8 o5 v t) (h8 : ∀ b, b < w.heap.size → o8 b → o8' b) (h5 : ∀ b, b < w.heap.size → o5 b → o5' b) : TreeOk w o8' o5' v t := by
  obtain ⟨ms, h1, h2, h3⟩ := h
  exact ⟨ms, h1, fun hl b hb => h8 b (RdS.ownLt h1 hl hb) (h2 hl b hb), RowsOk.mono h8 h5 t ms h3⟩
theorem TreeAt.ok {v : Value} {t : NT} (h : TreeAt w v t) : TreeOk w (fun b => b < w.heap.size) (fun b => b < w.heap.size) v t := by
  obtain ⟨ms, h1, h2⟩ := h
  have : TreeOk w (fun _ => True) (fun _ => True) v t := ⟨ms, h1, fun _ _ _ => trivial, RowsOk.of t ms h2⟩
  exact this.mono (fun b hb _ => hb) (fun b hb _ => hb)
theorem RowsOk.chg (hc : Chg w w' S) (h8 : ∀ b cells, Blk w b 52 cells → o8 b → ¬ S b) (h5 : ∀ b cells, Blk w b 89 cells → o5 b → ¬ S b) : ∀ (t : NT) (ms : List MN), RowsOk w o8 o5 t ms → RowsOk w' o8 o5 t ms
  | .nil, ms, h => h
  | .cons x k r, ms, h => by
    obtain ⟨m, q, h1, h2, h3, ⟨ks, h4, h6, h7⟩, h9⟩ := h
    refine ⟨m, q, h1, ⟨h2.1, h2.2.1, h2.2.2.1, ?_, h2.2.2.2.2⟩, h3, ⟨ks, h4.chgAt hc (fun hl b cells hb hk => h8 b cells hk (h6 hl b hb)), h6, RowsOk.chg hc h8 h5 k ks h7⟩, RowsOk.chg hc h8 h5 r q h9⟩
    obtain ⟨g1, g2, A, c, g3, g4, g5⟩ := h2.2.2.2.1
    refine ⟨g1, g2, A, c, g3, g4, fun hm => ?_⟩
    obtain ⟨b, o, cells, g6, g7, g8⟩ := g5 hm
    exact ⟨b, o, cells, g6, g7.chg hc (h5 b cells g7 (h3 hm b (by rw [g3, g6]; rfl))), g8⟩
theorem TreeOk.chg {v : Value} {t : NT} (h : TreeOk w o8 o5 v t) (hc : Chg w w' S) (h8 : ∀ b cells, Blk w b 52 cells → o8 b → ¬ S b) (h5 : ∀ b cells, Blk w b 89 cells → o5 b → ¬ S b) : TreeOk w' o8 o5 v t := by
  obtain ⟨ms, h1, h2, h3⟩ := h
  exact ⟨ms, h1.chgAt hc (fun hl b cells hb hk => h8 b cells hk (h2 hl b hb)), h2, RowsOk.chg hc h8 h5 t ms h3⟩
theorem TreeOk.no {v : Value} {t : NT} (h : TreeOk w o8 o5 v t) (hc : Chg w w' No) : TreeOk w' o8 o5 v t := h.chg hc (fun _ _ _ _ => id) (fun _ _ _ _ => id)
theorem TreeOk.nil : TreeOk w o8 o5 (.slice none 0 0) .nil := ⟨[], RdS.nil, fun h => absurd h (Nat.lt_irrefl 0), rfl⟩
end
theorem TreeOk.blk {w w' : World} {o8 o5 : Nat → Prop} {v : Value} {t : NT} {pb ty : Nat} {cs : List Value} (h : TreeOk w o8 o5 v t) (hb : Blk w pb ty cs) (hc : Chg w w' (· = pb)) (h8 : ty ≠ 52) (h5 : ty ≠ 89) : TreeOk w' o8 o5 v t :=
  h.chg hc (fun b cells hk _ he => hk.ne hb (Ne.symm h8) he) (fun b cells hk _ he => hk.ne hb (Ne.symm h5) he)
theorem TreeAt.blk {w w' : World} {v : Value} {t : NT} {pb ty : Nat} {cs : List Value} (h : TreeAt w v t) (hb : Blk w pb ty cs) (hc : Chg w w' (· = pb)) (h8 : ty ≠ 52) (h5 : ty ≠ 89) : TreeAt w' v t := (h.ok.blk hb hc h8 h5).at'
/-! rows one behind the other -/
def NT.app : NT → NT → NT
  | .nil, s => s
  | .cons x k r, s => .cons x k (r.app s)
def NT.snoc (t : NT) (x : Hd) (k : NT) : NT := t.app (.cons x k .nil)
theorem NT.app_nil : ∀ t : NT, t.app .nil = t
  | .nil => rfl
  | .cons x k r => by simp only [NT.app, r.app_nil]
theorem NT.app_assoc : ∀ a b c : NT, (a.app b).app c = a.app (b.app c)
  | .nil, b, c => rfl
  | .cons x k r, b, c => by simp only [NT.app, r.app_assoc b c]
theorem NT.snoc_app (t r : NT) (x : Hd) (k : NT) : (t.snoc x k).app r = t.app (.cons x k r) := by
  unfold NT.snoc; rw [NT.app_assoc]; rfl
theorem NT.app_len : ∀ a b : NT, (a.app b).len = a.len + b.len
  | .nil, b => by simp [NT.app, NT.len]
  | .cons x k r, b => by simp only [NT.app, NT.len, r.app_len b]; omega
theorem NT.snoc_len (t : NT) (x : Hd) (k : NT) : (t.snoc x k).len = t.len + 1 := by unfold NT.snoc; rw [NT.app_len]; rfl
theorem RowsOk.snoc {w : World} {o8 o5 : Nat → Prop} {m : MN} {x : Hd} {k : NT} (hm : HR w m x) (ha : 0 < x.attrs.length → ∀ b, m.attrs.ownBlock = some b → o5 b) (hk : TreeOk w o8 o5 m.kids k) : ∀ (t : NT) (ms : List MN), RowsOk w o8 o5 t ms → RowsOk w o8 o5 (t.snoc x k) (ms ++ [m])
  | .nil, ms, h => by
    cases h
    exact ⟨m, [], rfl, hm, ha, hk, rfl⟩
  | .cons y k' r, ms, h => by
    obtain ⟨m', q, rfl, h2, h3, h4, h9⟩ := h
    exact ⟨m', q ++ [m], rfl, h2, h3, h4, RowsOk.snoc hm ha hk r q h9⟩
/-- a row of nodes that grows: made since a heap of size B, its kids' rows too -/
def Out (B : Nat) (o5 : Nat → Prop) (w : World) (vo : Value) (t : NT) : Prop := ∃ ms, Own w 52 7 vo ms.length (encN ms) ∧ NewS B vo ∧ RowsOk w (fun b => B ≤ b ∧ vo.ownBlock ≠ some b) o5 t ms
section
variable {B : Nat} {o5 : Nat → Prop} {w w' : World} {vo : Value} {t : NT}
theorem Out.nil : Out B o5 w (.slice none 0 0) .nil := ⟨[], Own.nil, (fun k hk => by cases hk), rfl⟩
theorem Out.no (h : Out B o5 w vo t) (hc : Chg w w' No) : Out B o5 w' vo t := by
  obtain ⟨ms, h1, h2, h3⟩ := h
  exact ⟨ms, h1.no hc, h2, RowsOk.chg hc (fun _ _ _ _ => id) (fun _ _ _ _ => id) t ms h3⟩
/-- a block of another type is written -/
theorem Out.blk {pb ty : Nat} {cs : List Value} (h : Out B o5 w vo t) (hb : Blk w pb ty cs) (hc : Chg w w' (· = pb)) (h8 : ty ≠ 52) (h5 : ty ≠ 89) : Out B o5 w' vo t := by
  obtain ⟨ms, h1, h2, h3⟩ := h
  exact ⟨ms, h1.chg hc (fun k hk he => h1.ne hk hb (Ne.symm h8) he), h2, RowsOk.chg hc (fun b cells hk _ he => hk.ne hb (Ne.symm h8) he) (fun b cells hk _ he => hk.ne hb (Ne.symm h5) he) t ms h3⟩
theorem Out.form (h : Out B o5 w vo t) : ∃ A c, vo = .slice A t.len c ∧ t.len ≤ c := by
  obtain ⟨ms, h1, h2, h3⟩ := h
  have := h1.rd.form
  rwa [Rows.len t ms (RowsOk.rows t ms h3)] at this
/-- at the end: a tree, all new -/
theorem Out.tree (h : Out B o5 w vo t) : TreeOk w (fun b => B ≤ b) o5 vo t := by
  obtain ⟨ms, h1, h2, h3⟩ := h
  exact ⟨ms, h1.rd, fun _ b hb => h2 b hb, RowsOk.mono (fun b _ h => h.1) (fun _ _ h => h) t ms h3⟩
def MN.val (m : MN) : Value := .agg #[.int .i64 m.kind, .int .i64 m.space, .string m.name, m.attrs, .string m.text, .int .i64 m.fr, m.kids]
theorem RdS.node {w1 : World} {b : Nat} {m : MN} {x : Hd} {ks : List MN} (hx : HR w m x) (hk : RdS w 52 7 m.kids ks.length (encN ks)) (h : New w w1 b 52 m.val.cells.toList) : RdS w1 52 7 (.slice (some ⟨b, 0, none⟩) 1 1) 1 (encN [m]) := by
  refine RdS.new h rfl ?_
  obtain ⟨A, c, hv, _⟩ := hx.2.2.2.1.form
  obtain ⟨A', c', hv', _⟩ := hk.form
  intro u hu
  simp only [encN, List.mem_cons, List.not_mem_nil, or_false] at hu
  rcases hu with rfl | rfl | rfl | rfl | rfl | rfl | rfl
  · rfl
  · rfl
  · rfl
  · rw [hv]; rfl
  · rfl
  · rfl
  · rw [hv']; rfl
/-- one more -/
theorem Out.push {w1 w2 : World} {v' : Value} {m : MN} {x : Hd} {k : NT} {ms : List MN} (g1 : Own w 52 7 vo ms.length (encN ms)) (g2 : NewS B vo) (g3 : RowsOk w (fun b => B ≤ b ∧ vo.ownBlock ≠ some b) o5 t ms) (hm : HR w m x) (ha : 0 < x.attrs.length → ∀ b, m.attrs.ownBlock = some b → o5 b) (hk : TreeOk w (fun b => B ≤ b ∧ vo.ownBlock ≠ some b) o5 m.kids k) (hB : B ≤ w.heap.size)
    (h1 : Chg w w1 No) (hO : Own w2 52 7 v' (ms.length + 1) (encN ms ++ encN [m])) (hc : Chg w1 w2 (fun k => vo.ownBlock = some k)) (hr : v'.ownBlock = vo.ownBlock ∨ ∃ k, v'.ownBlock = some k ∧ w1.heap.size ≤ k) : Out B o5 w2 v' (t.snoc x k) := by
  refine ⟨ms ++ [m], by rw [List.length_append, encN_app]; exact hO, ?_, ?_⟩
  · intro j hj
    rcases hr with e1 | ⟨q, e1, e2⟩
    · exact g2 j (e1 ▸ hj)
    · rw [hj] at e1; cases e1; have := h1.size; omega
  · have h4 := RowsOk.snoc hm ha hk t ms g3
    have h5 := RowsOk.chg h1 (fun _ _ _ _ => id) (fun _ _ _ _ => id) _ _ h4
    have hO1 := g1.no h1
    have h6 := RowsOk.mono (o8' := fun b => (B ≤ b ∧ vo.ownBlock ≠ some b) ∧ b < w1.heap.size) (o5' := o5) (fun b hb hq => ⟨hq, hb⟩) (fun _ _ hq => hq) _ _ h5
    have h7 := RowsOk.chg hc (fun b _ _ hb => hb.1.2) (fun b cells hb _ he => hO1.ne he hb (by decide) rfl) _ _ h6
    refine RowsOk.mono (fun b _ hq => ⟨hq.1.1, fun he => ?_⟩) (fun _ _ hq => hq) _ _ h7
    rcases hr with e1 | ⟨q, e1, e2⟩
    · exact hq.1.2 (e1 ▸ he)
    · rw [he] at e1; cases e1; omega
end
end Go.Proofs.Yteeibieaapiomaa.D
