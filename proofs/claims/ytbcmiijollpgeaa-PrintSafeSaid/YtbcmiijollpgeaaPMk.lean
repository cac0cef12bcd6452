import Derived.Test.YtbcmiijollpgeaaPTape
/- Arts that are made: rows that grow; what may stand in them. -/
namespace Go.Z
open Go
theorem RdS.chgAt {w w' : World} {t sz m : Nat} {v : Value} {cs : List Value} {S : Nat → Prop} (h : RdS w t sz v m cs) (hc : Chg w w' S) (hS : 0 < m → ∀ b cells, v.ownBlock = Option.some b → Blk w b t cells → ¬ S b) : RdS w' t sz v m cs := by
  obtain ⟨h1, h2, A, c, h3, h4, h5⟩ := h
  refine ⟨h1, h2, A, c, h3, h4, fun hm => ?_⟩
  obtain ⟨b, o, cells, h6, h7, h8⟩ := h5 hm
  exact ⟨b, o, cells, h6, h7.chg hc (hS hm b cells (by rw [h3, h6]; rfl) h7), h8⟩
theorem RdS.ownLt {w : World} {t sz m : Nat} {v : Value} {cs : List Value} (h : RdS w t sz v m cs) (hm : 0 < m) {b : Nat} (hb : v.ownBlock = Option.some b) : b < w.heap.size := by
  obtain ⟨h1, h2, A, c, h3, h4, h5⟩ := h
  obtain ⟨b', o, cells, h6, h7, h8⟩ := h5 hm
  rw [h3, h6] at hb
  simp [Value.ownBlock] at hb
  subst hb
  exact h7.lt
end Go.Z
namespace Go.Proofs.Ytbcmiijollpgeaa.T
open Go Go.Z Go.Proofs
set_option linter.unusedVariables false
def AtS (w : World) (v : Value) (l : List At) : Prop := RdS w 33 2 v l.length (encA l)
theorem AtS.form {w : World} {v : Value} {l : List At} (h : AtS w v l) : ∃ A c, v = .slice A l.length c ∧ l.length ≤ c := RdS.form h
theorem AtS.nil (w : World) : AtS w nS [] := RdS.nil
def HO (w : World) (m : MA) (x : Hd) : Prop := m.name = x.name ∧ AtS w m.attrs x.attrs ∧ m.text = x.text ∧ isSl m.fr
def RowsOk (w : World) (o : Nat → Prop) : AT → List MA → Prop
  | .nil, ms => ms = []
  | .cons x k r, ms => ∃ m q, ms = m :: q ∧ HO w m x ∧
    (∃ ks, RdS w 38 5 m.kids ks.length (encM ks) ∧ (0 < ks.length → ∀ b, m.kids.ownBlock = some b → o b) ∧ RowsOk w o k ks) ∧ RowsOk w o r q
def TreeOk (w : World) (o : Nat → Prop) (v : Value) (t : AT) : Prop := ∃ ms, RdS w 38 5 v ms.length (encM ms) ∧ (0 < ms.length → ∀ b, v.ownBlock = some b → o b) ∧ RowsOk w o t ms
section
variable {w w' : World} {o o' : Nat → Prop} {S : Nat → Prop}
theorem RowsOk.rows : ∀ (t : AT) (ms : List MA), RowsOk w o t ms → Rows true w t ms
  | .nil, ms, h => h
  | .cons x k r, ms, h => by
    obtain ⟨m, q, h1, h2, ⟨ks, h4, h5, h6⟩, h7⟩ := h
    exact ⟨m, q, h1, ⟨h2.1, Rx.of h2.2.1, h2.2.2⟩, ⟨ks, Rx.of h4, RowsOk.rows k ks h6⟩, RowsOk.rows r q h7⟩
theorem TreeOk.at' {v : Value} {t : AT} (h : TreeOk w o v t) : TreeAt true w v t := by
  obtain ⟨ms, h1, _, h2⟩ := h
  exact ⟨ms, Rx.of h1, RowsOk.rows t ms h2⟩
theorem RowsOk.of : ∀ (t : AT) (ms : List MA), Rows true w t ms → RowsOk w (fun _ => True) t ms
  | .nil, ms, h => h
  | .cons x k r, ms, h => by
    obtain ⟨m, q, h1, h2, ⟨ks, h4, h6⟩, h7⟩ := h
    exact ⟨m, q, h1, ⟨h2.1, h2.2.1.2 rfl, h2.2.2⟩, ⟨ks, h4.2 rfl, fun _ _ _ => trivial, RowsOk.of k ks h6⟩, RowsOk.of r q h7⟩
theorem RowsOk.mono (h8 : ∀ b, b < w.heap.size → o b → o' b) : ∀ (t : AT) (ms : List MA), RowsOk w o t ms → RowsOk w o' t ms
  | .nil, ms, h => h
  | .cons x k r, ms, h => by
    obtain ⟨m, q, h1, h2, ⟨ks, h4, h6, h7⟩, h9⟩ := h
    exact ⟨m, q, h1, h2, ⟨ks, h4, fun hl b hb => h8 b (RdS.ownLt h4 hl hb) (h6 hl b hb), RowsOk.mono h8 k ks h7⟩, RowsOk.mono h8 r q h9⟩
theorem TreeOk.mono {v : Value} {t : AT} (h : TreeOk w o v t) (h8 : ∀ b, b < w.heap.size → o b → o' b) : TreeOk w o' v t := by
  obtain ⟨ms, h1, h2, h3⟩ := h
  exact ⟨ms, h1, fun hl b hb => h8 b (RdS.ownLt h1 hl hb) (h2 hl b hb), RowsOk.mono h8 t ms h3⟩
theorem TreeAt.ok {v : Value} {t : AT} (h : TreeAt true w v t) : TreeOk w (fun b => b < w.heap.size) v t := by
  obtain ⟨ms, h1, h2⟩ := h
  have : TreeOk w (fun _ => True) v t := ⟨ms, h1.2 rfl, fun _ _ _ => trivial, RowsOk.of t ms h2⟩
  exact this.mono (fun b hb _ => hb)
theorem RowsOk.chg (hc : Chg w w' S) (h8 : ∀ b cells, Blk w b 38 cells → o b → ¬ S b) (h5 : ∀ b cells, Blk w b 33 cells → ¬ S b) : ∀ (t : AT) (ms : List MA), RowsOk w o t ms → RowsOk w' o t ms
  | .nil, ms, h => h
  | .cons x k r, ms, h => by
    obtain ⟨m, q, h1, h2, ⟨ks, h4, h6, h7⟩, h9⟩ := h
    exact ⟨m, q, h1, ⟨h2.1, h2.2.1.chgAt hc (fun _ b cells _ hb => h5 b cells hb), h2.2.2⟩, ⟨ks, h4.chgAt hc (fun hl b cells hb hk => h8 b cells hk (h6 hl b hb)), h6, RowsOk.chg hc h8 h5 k ks h7⟩, RowsOk.chg hc h8 h5 r q h9⟩
theorem TreeOk.chg {v : Value} {t : AT} (h : TreeOk w o v t) (hc : Chg w w' S) (h8 : ∀ b cells, Blk w b 38 cells → o b → ¬ S b) (h5 : ∀ b cells, Blk w b 33 cells → ¬ S b) : TreeOk w' o v t := by
  obtain ⟨ms, h1, h2, h3⟩ := h
  exact ⟨ms, h1.chgAt hc (fun hl b cells hb hk => h8 b cells hk (h2 hl b hb)), h2, RowsOk.chg hc h8 h5 t ms h3⟩
theorem TreeOk.no {v : Value} {t : AT} (h : TreeOk w o v t) (hc : Chg w w' No) : TreeOk w' o v t := h.chg hc (fun _ _ _ _ => id) (fun _ _ _ => id)
theorem TreeOk.nil : TreeOk w o nS .nil := ⟨[], RdS.nil, fun h => absurd h (Nat.lt_irrefl 0), rfl⟩
end
theorem TreeOk.form {w : World} {o : Nat → Prop} {v : Value} {t : AT} (h : TreeOk w o v t) : ∃ A c, v = .slice A t.len c ∧ t.len ≤ c := h.at'.form
/-- a block of a tape is written -/
theorem TreeOk.tp {w w' : World} {o : Nat → Prop} {v : Value} {t : AT} {B bt : Nat} (h : TreeOk w o v t) (hT : Tp w B bt) (hc : Chg w w' (· = bt)) : TreeOk w' o v t := by
  obtain ⟨cs, hb⟩ := hT.blk
  exact h.chg hc (fun b cells hk _ he => hk.ne hb (by decide) he) (fun b cells hk he => hk.ne hb (by decide) he)
theorem AtS.tp {w w' : World} {v : Value} {l : List At} {B bt : Nat} (h : AtS w v l) (hT : Tp w B bt) (hc : Chg w w' (· = bt)) : AtS w' v l := by
  obtain ⟨cs, hb⟩ := hT.blk
  exact RdS.chgAt h hc (fun _ b cells _ hk he => hk.ne hb (by decide) he)
def AT.snoc (t : AT) (x : Hd) (k : AT) : AT := t.app (.cons x k .nil)
theorem AT.snoc_len (t : AT) (x : Hd) (k : AT) : (t.snoc x k).len = t.len + 1 := by unfold AT.snoc; rw [AT.app_len]; rfl
theorem AT.snoc_size (t : AT) (x : Hd) (k : AT) : (t.snoc x k).size = t.size + k.size + 1 := by unfold AT.snoc; rw [AT.app_size]; simp [AT.size]; omega
theorem RowsOk.snoc {w : World} {o : Nat → Prop} {m : MA} {x : Hd} {k : AT} (hm : HO w m x) (hk : TreeOk w o m.kids k) : ∀ (t : AT) (ms : List MA), RowsOk w o t ms → RowsOk w o (t.snoc x k) (ms ++ [m])
  | .nil, ms, h => by
    have : ms = [] := h
    subst this
    exact ⟨m, [], rfl, hm, hk, rfl⟩
  | .cons y k' r, ms, h => by
    obtain ⟨m', q, rfl, h2, h4, h9⟩ := h
    exact ⟨m', q ++ [m], rfl, h2, h4, RowsOk.snoc hm hk r q h9⟩
/-- a row of arts that grows: made since a heap of size B, its kids' rows too -/
def Out (B : Nat) (w : World) (vo : Value) (t : AT) : Prop := ∃ ms, Own w 38 5 vo ms.length (encM ms) ∧ (∀ k, vo.ownBlock = some k → B ≤ k) ∧ RowsOk w (fun b => B ≤ b ∧ vo.ownBlock ≠ some b) t ms
section
variable {B : Nat} {w w' : World} {vo : Value} {t : AT}
theorem Out.nil : Out B w nS .nil := ⟨[], Own.nil, (fun k hk => by cases hk), rfl⟩
theorem Out.chg {S : Nat → Prop} (h : Out B w vo t) (hc : Chg w w' S) (h8 : ∀ b cells, Blk w b 38 cells → B ≤ b → ¬ S b) (h5 : ∀ b cells, Blk w b 33 cells → ¬ S b) : Out B w' vo t := by
  obtain ⟨ms, h1, h2, h3⟩ := h
  refine ⟨ms, h1.chg hc (fun k hk hs => ?_), h2, RowsOk.chg hc (fun b cells hb ho => h8 b cells hb ho.1) h5 t ms h3⟩
  obtain ⟨cells, hb⟩ := h1.blk hk
  exact h8 k cells hb (h2 k hk) hs
theorem Out.no (h : Out B w vo t) (hc : Chg w w' No) : Out B w' vo t := h.chg hc (fun _ _ _ _ => id) (fun _ _ _ => id)
theorem Out.tp {B' bt : Nat} (h : Out B w vo t) (hT : Tp w B' bt) (hc : Chg w w' (· = bt)) : Out B w' vo t := by
  obtain ⟨cs, hb⟩ := hT.blk
  exact h.chg hc (fun b cells hk _ he => hk.ne hb (by decide) he) (fun b cells hk he => hk.ne hb (by decide) he)
theorem Out.tree (h : Out B w vo t) : TreeOk w (fun b => B ≤ b) vo t := by
  obtain ⟨ms, h1, h2, h3⟩ := h
  exact ⟨ms, h1.rd, fun _ b hb => h2 b hb, RowsOk.mono (fun b _ h => h.1) t ms h3⟩
theorem Out.form (h : Out B w vo t) : ∃ A c, vo = .slice A t.len c ∧ t.len ≤ c := h.tree.form
theorem Out.less {B' : Nat} (h : Out B w vo t) (hB : B' ≤ B) : Out B' w vo t := by
  obtain ⟨ms, h1, h2, h3⟩ := h
  exact ⟨ms, h1, fun k hk => Nat.le_trans hB (h2 k hk), RowsOk.mono (fun b _ h => ⟨Nat.le_trans hB h.1, h.2⟩) t ms h3⟩
/-- kids that are newer than the row -/
theorem TreeOk.under {B2 : Nat} {K : Value} {k : AT} {w0 : World} (h : Out B w0 vo t) (hB : B ≤ B2) (hs : w0.heap.size ≤ B2) (hk : TreeOk w (fun b => B2 ≤ b) K k) : TreeOk w (fun b => B ≤ b ∧ vo.ownBlock ≠ some b) K k := by
  obtain ⟨ms, h1, h2, h3⟩ := h
  refine hk.mono (fun b _ hb => ⟨by omega, fun he => ?_⟩)
  have := h1.lt he
  omega
/-- one more -/
theorem Out.push {w1 w2 : World} {v' : Value} {m : MA} {x : Hd} {k : AT} {ms : List MA} (g1 : Own w 38 5 vo ms.length (encM ms)) (g2 : ∀ k, vo.ownBlock = some k → B ≤ k) (g3 : RowsOk w (fun b => B ≤ b ∧ vo.ownBlock ≠ some b) t ms) (hm : HO w m x) (hk : TreeOk w (fun b => B ≤ b ∧ vo.ownBlock ≠ some b) m.kids k) (hB : B ≤ w.heap.size)
    (h1 : Chg w w1 No) (hO : Own w2 38 5 v' (ms.length + 1) (encM ms ++ encM [m])) (hc : Chg w1 w2 (fun k => vo.ownBlock = some k)) (hr : v'.ownBlock = vo.ownBlock ∨ ∃ k, v'.ownBlock = some k ∧ w1.heap.size ≤ k) : Out B w2 v' (t.snoc x k) := by
  refine ⟨ms ++ [m], by rw [List.length_append, encM_app]; exact hO, ?_, ?_⟩
  · intro j hj
    rcases hr with e1 | ⟨q, e1, e2⟩
    · exact g2 j (e1 ▸ hj)
    · rw [hj] at e1; cases e1; have := h1.size; omega
  · have h4 := RowsOk.snoc hm hk t ms g3
    have h5 := RowsOk.chg h1 (fun _ _ _ _ => id) (fun _ _ _ => id) _ _ h4
    have hO1 := g1.no h1
    have h6 := RowsOk.mono (o' := fun b => (B ≤ b ∧ vo.ownBlock ≠ some b) ∧ b < w1.heap.size) (fun b hb hq => ⟨hq, hb⟩) _ _ h5
    have h7 := RowsOk.chg hc (fun b _ _ hb => hb.1.2) (fun b cells hb he => hO1.ne he hb (by decide) rfl) _ _ h6
    refine RowsOk.mono (fun b _ hq => ⟨hq.1.1, fun he => ?_⟩) _ _ h7
    rcases hr with e1 | ⟨q, e1, e2⟩
    · exact hq.1.2 (e1 ▸ he)
    · rw [he] at e1; cases e1; omega
end
/-- one more art at the end: what an append does -/
theorem Out.len (B : Nat) {w : World} {vo : Value} {t : AT} {ms : List MA} (g3 : RowsOk w (fun b => B ≤ b ∧ vo.ownBlock ≠ some b) t ms) : ms.length = t.len := Rows.len t ms (RowsOk.rows t ms g3)
/-! what may stand in them -/
def lNm : List (List UInt8) := [[], [112], [112, 114, 101], [104, 114], [104, 50], [104, 51], [104, 52], [104, 53], [104, 54], [117, 108], [111, 108], [108, 105], [98, 108, 111, 99, 107, 113, 117, 111, 116, 101], [116, 97, 98, 108, 101], [116, 98, 111, 100, 121], [116, 114], [116, 100], [116, 104], [98, 114], [105, 109, 103], [97], [99, 111, 100, 101], [101, 109], [115, 116, 114, 111, 110, 103], [115, 117, 98], [115, 117, 112]]
def lTx : List (List UInt8) := [[111, 110, 101], [32, 116, 119, 111, 32], [10], [116, 104, 114, 101, 101, 44, 32], [60, 38, 62], [194, 160], [13], [34], [97, 32, 108, 111, 110, 103, 101, 114, 32, 116, 101, 120, 116, 46], [228, 184, 150], [38, 97, 109, 112, 59], [10, 120], [32]]
def lTxs : List (List UInt8) := [] :: [120] :: (lTx ++ lTx.map (· ++ [120]))
def lAlt : List (List UInt8) := [[], [97, 110, 32, 105, 109, 97, 103, 101], [60, 34, 38, 13]]
def lSrc : List (List UInt8) := [[104, 116, 116, 112, 58, 47, 47, 97, 47, 105, 46, 112, 110, 103], [100, 97, 116, 97, 58, 105, 109, 97, 103, 101, 47, 112, 110, 103, 59, 98, 97, 115, 101, 54, 52, 44, 120, 120], [100, 97, 116, 97, 58, 105, 109, 97, 103, 101, 47, 103, 105, 102, 44]]
def lSet : List (List UInt8) := [[104, 116, 116, 112, 58, 47, 47, 97, 47, 98, 32, 50, 120], [104, 116, 116, 112, 58, 47, 47, 97, 47, 98, 44, 32, 104, 116, 116, 112, 115, 58, 47, 47, 99, 47, 100, 32, 49, 48, 48, 119]]
def lHref : List (List UInt8) := [[104, 116, 116, 112, 58, 47, 47, 97, 47], [104, 116, 116, 112, 115, 58, 47, 47, 104, 58, 55, 47, 120, 63, 113, 35, 102], [109, 97, 105, 108, 116, 111, 58, 97, 64, 98]]
def lKey : List (List UInt8) := [[97, 108, 116], [115, 114, 99], [115, 114, 99, 115, 101, 116], [104, 114, 101, 102], [99, 105, 116, 101], [114, 111, 108, 101]]
def sCite : List UInt8 := [104, 116, 116, 112, 58, 47, 47, 97, 47, 113]
def sPres : List UInt8 := [112, 114, 101, 115, 101, 110, 116, 97, 116, 105, 111, 110]
def lVal : List (List UInt8) := lAlt ++ lSrc ++ lSet ++ lHref ++ [sCite, sPres]
def HdOk (x : Hd) : Prop := x.name ∈ lNm ∧ x.attrs.length ≤ 3 ∧ (∀ a ∈ x.attrs, a.1 ∈ lKey ∧ a.2 ∈ lVal) ∧ x.text ∈ lTxs
def AT.ok : AT → Prop
  | .nil => True
  | .cons x k r => HdOk x ∧ k.ok ∧ r.ok
theorem AT.app_ok : ∀ (t q : AT), t.ok → q.ok → (t.app q).ok
  | .nil, q, _, h => h
  | .cons x k r, q, h, h' => ⟨h.1, h.2.1, AT.app_ok r q h.2.2 h'⟩
theorem AT.snoc_ok {t : AT} {x : Hd} {k : AT} (h : t.ok) (hx : HdOk x) (hk : k.ok) : (t.snoc x k).ok := AT.app_ok t _ h ⟨hx, hk, trivial⟩
theorem nm_len : ∀ n ∈ lNm, n.length ≤ 10 := by decide
theorem tx_len : ∀ n ∈ lTxs, n.length ≤ 15 := by decide
theorem key_len : ∀ n ∈ lKey, n.length ≤ 6 := by decide
theorem val_len : ∀ n ∈ lVal, n.length ≤ 28 := by decide
theorem attrs_bound : ∀ l : List At, (∀ a ∈ l, a.1 ∈ lKey ∧ a.2 ∈ lVal) → attrsN l ≤ 178 * l.length
  | [], _ => Nat.le_refl _
  | a :: r, h => by
    have := attrs_bound r (fun a ha => h a (List.mem_cons_of_mem _ ha))
    obtain ⟨h1, h2⟩ := h a (List.mem_cons_self ..)
    have := key_len _ h1; have := val_len _ h2
    simp only [attrsN, List.length_cons]; omega
theorem AT.ok_wt : ∀ t : AT, t.ok → t.wt ≤ 700 * t.size
  | .nil, _ => Nat.le_refl _
  | .cons x k r, h => by
    obtain ⟨⟨h1, h2, h3, h4⟩, h5, h6⟩ := h
    have := AT.ok_wt k h5; have := AT.ok_wt r h6
    have := nm_len _ h1; have := tx_len _ h4
    have := attrs_bound x.attrs h3
    simp only [AT.wt, AT.size]; omega
end Go.Proofs.Ytbcmiijollpgeaa.T
