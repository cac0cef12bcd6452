import Derived.Test.YtjiehalanklapaaVNum2
import Derived.Test.YtjiehalanklapaaDKnown
import Derived.Deep.Slices
import Derived.ProofKit
/- Nodes that are handed in: what their reading tells. -/
namespace Go.Proofs.Ytjiehalanklapaa.V
open Go Go.Z Go.Proofs Go.Proofs.Ytjiehalanklapaa.D
open Go.ChangeShapes Go.WideShapes
set_option linter.unusedVariables false
theorem ex_list {α : Type} (d : α) {p : Nat → α → Prop} : ∀ n, (∀ i, i < n → ∃ a, p i a) → ∃ l : List α, l.length = n ∧ ∀ i, i < n → p i (l.getD i d)
  | 0, _ => ⟨[], rfl, fun i hi => by omega⟩
  | n + 1, h => by
    obtain ⟨l, h1, h2⟩ := ex_list d n (fun i hi => h i (by omega))
    obtain ⟨a, ha⟩ := h n (by omega)
    refine ⟨l ++ [a], by simp [h1], fun i hi => ?_⟩
    rw [getD_snoc]
    by_cases hn : i = l.length
    · rw [if_pos hn, hn, h1]; exact ha
    · rw [if_neg hn]; exact h2 i (by omega)
theorem spot_none {W : World} {x : Addr} {v : Value} (h : W.cell? (x.add 0) = some v) : ∃ b o, x = ⟨b, o, none⟩ := by
  obtain ⟨b, o, s⟩ := x
  have := World.cell?_spot h
  have hs : s = none := by simpa [Addr.add] using this
  subst hs
  exact ⟨b, o, rfl⟩
section
variable {H : Type} {enc : TypeId × Value → H} {W : World} {base : Nat} {sp : Nat → Bool} {hd : Bool}
theorem take1 {cs : List Value} {j : Nat} {v : Value} (h : cs[j]? = some v) : (cs.drop j).take 1 = [v] := by
  have hj : j < cs.length := (List.getElem?_eq_some_iff.1 h).1
  rw [List.drop_eq_getElem_cons hj]
  rw [List.getElem?_eq_getElem hj] at h
  rw [Option.some.inj h]; rfl
/-- the rows of a slice, element by element -/
theorem slice_in {t e c fuel : Nat} {cs : List Value} {x : DataW H × List MemPlace} (ht : (Try.prog).underlying t = some (.slice e)) (hc : (Try.prog).cellsOf e = c) (h : DataW.trod enc Try.prog W base sp hd fuel t cs = some x) :
    (cs = [.slice none 0 0]) ∨ ∃ (a : Addr) (len cap n : Nat), fuel = n + 1 ∧ cs = [.slice (some a) len cap] ∧ len ≤ cap ∧ cap ≤ maxLen ∧ ∀ i, i < len → ∃ cs' y, cs'.length = c ∧ (∀ j v, cs'[j]? = some v → W.cell? (a.add (i * c + j)) = some v) ∧ DataW.trod enc Try.prog W base sp hd n e cs' = some y := by
  rcases DataW.trod_slice ht h with ⟨h0, _⟩ | ⟨a, len, cap, elems, rest, n, hf, rfl, _, hb, hl, hm, hlen, hel, _⟩
  · exact .inl h0
  · refine .inr ⟨a, len, cap, n, hf, rfl, hl, hm, fun i hi => ?_⟩
    have key := hel i hi
    rw [hc, List.getElem?_eq_getElem (by omega)] at key
    obtain ⟨cs', h1, h2⟩ := Option.bind_eq_some_iff.1 key
    obtain ⟨_, hlen', hcell⟩ := World.cells?_some h1
    refine ⟨cs', _, hlen', fun j v hj => ?_, h2⟩
    have hjl : j < c := by have := (List.getElem?_eq_some_iff.1 hj).1; omega
    have := hcell j hjl
    rw [Go.Deep.add_add] at this
    rw [this, hj]
theorem field_in {n t : Nat} {cs' : List Value} {xs : List (DataW H × List MemPlace)} (j : Nat) (v : Value) (hv : cs'[j]? = some v) (g : DataW.trod enc Try.prog W base sp hd n t ((cs'.drop j).take ((Try.prog).cellsOf t)) = xs[j]?) (hx : j < xs.length) (hc : (Try.prog).cellsOf t = 1) : ∃ y, DataW.trod enc Try.prog W base sp hd n t [v] = some y := by
  rw [hc, List.getElem?_eq_getElem hx, take1 hv] at g
  exact ⟨_, g⟩
theorem maxLen_le : maxLen ≤ 9223372036854775807 := by simp [maxLen]
set_option maxRecDepth 100000 in
theorem attrs_in {fuel : Nat} {cs : List Value} {x : DataW H × List MemPlace} (h : DataW.trod enc Try.prog W base sp hd fuel 46 cs = some x) : ∃ v l, cs = [v] ∧ AttrS W v l ∧ l.length ≤ 9223372036854775807 := by
  rcases slice_in (c := 2) Try.underlying46 (by kernel_rfl) h with rfl | ⟨a, len, cap, n, _, rfl, hl, hm, hx⟩
  · exact ⟨_, [], rfl, AttrS.nil W, by simp⟩
  · have : ∀ i, i < len → ∃ m : At, W.cell? (a.add (i * 2 + 0)) = some (.string m.1) ∧ W.cell? (a.add (i * 2 + 1)) = some (.string m.2) := fun i hi => by
      obtain ⟨cs', y, hl', hc', hy⟩ := hx i hi
      obtain ⟨xs, k, _, _, _, hxl, hf⟩ := DataW.trod_struct Try.underlying45 hy
      have hxl : xs.length = 2 := hxl
      match cs', hl' with
      | [v0, v1], _ =>
        obtain ⟨y0, g0⟩ := field_in 0 v0 rfl (hf 0 _ rfl) (by omega) (by kernel_rfl)
        obtain ⟨y1, g1⟩ := field_in 1 v1 rfl (hf 1 _ rfl) (by omega) (by kernel_rfl)
        obtain ⟨s0, e0, _⟩ := DataW.trod_string Try.underlying9 g0
        obtain ⟨s1, e1, _⟩ := DataW.trod_string Try.underlying9 g1
        have e0 : v0 = .string s0 := by simpa using e0
        have e1 : v1 = .string s1 := by simpa using e1
        subst e0; subst e1
        exact ⟨(s0, s1), hc' 0 _ rfl, hc' 1 _ rfl⟩
    obtain ⟨l, hll, hp⟩ := ex_list at0 len this
    refine ⟨_, l, rfl, ⟨encA_len l, encA_one l, some a, cap, by rw [hll], by omega, fun hpos => ?_⟩, by have := maxLen_le; omega⟩
    obtain ⟨b, o, rfl⟩ := spot_none (hp 0 (by omega)).1
    refine ⟨b, o, rfl, fun j u hj => ?_⟩
    have hjl := (List.getElem?_eq_some_iff.1 hj).1
    rw [encA_len] at hjl
    obtain ⟨c0, c1⟩ := hp (j / 2) (by omega)
    obtain ⟨g0, g1⟩ := encA_get l (j / 2) (by omega)
    rw [addr_add] at c0 c1
    by_cases hm2 : j % 2 = 0
    · have e : j / 2 * 2 = j := by omega
      rw [e] at g0 c0
      rw [hj] at g0; cases g0; exact c0
    · have e : j / 2 * 2 + 1 = j := by omega
      rw [e] at g1 c1
      rw [hj] at g1; cases g1; exact c1
def ntOf : List (MN × Hd × NT) → NT
  | [] => .nil
  | (_, x, k) :: r => .cons x k (ntOf r)
theorem ntOf_len : ∀ l, (ntOf l).len = l.length
  | [] => rfl
  | (_, x, k) :: r => by simp [ntOf, NT.len, ntOf_len r]
theorem ntOf_rows : ∀ l : List (MN × Hd × NT), (∀ q ∈ l, HR W q.1 q.2.1 ∧ TreeAt W q.1.kids q.2.2) → Rows W (ntOf l) (l.map (·.1))
  | [], _ => rfl
  | (m, x, k) :: r, h => by
    have h1 := h (m, x, k) (by simp)
    exact ⟨m, _, rfl, h1.1, h1.2, ntOf_rows r (fun q hq => h q (by simp [hq]))⟩
theorem ntOf_right : ∀ l : List (MN × Hd × NT), (∀ q ∈ l, q.2.1.attrs.length ≤ 9223372036854775807 ∧ q.2.2.len ≤ 9223372036854775807 ∧ RightT q.2.2) → RightT (ntOf l)
  | [], _ => trivial
  | (m, x, k) :: r, h => by
    have h1 := h (m, x, k) (by simp)
    exact ⟨h1.1, h1.2.1, h1.2.2, ntOf_right r (fun q hq => h q (by simp [hq]))⟩
def tr0 : MN × Hd × NT := (MN.z, ⟨0, 0, ⟨#[]⟩, [], ⟨#[]⟩, 0⟩, .nil)
set_option maxRecDepth 100000 in
theorem tree_in : ∀ (fuel : Nat) (cs : List Value) (x : DataW H × List MemPlace), DataW.trod enc Try.prog W base sp hd fuel 31 cs = some x → ∃ v t, cs = [v] ∧ TreeAt W v t ∧ RightT t ∧ t.len ≤ 9223372036854775807 := by
  intro fuel
  induction fuel using Nat.strongRecOn with
  | ind fuel ih =>
    intro cs x h
    have hml := maxLen_le
    rcases slice_in (c := 7) Try.underlying31 (by kernel_rfl) h with rfl | ⟨a, len, cap, n, hfn, rfl, hl, hm, hx⟩
    · exact ⟨_, .nil, rfl, TreeAt.nil, trivial, by simp [NT.len]⟩
    · have : ∀ i, i < len → ∃ q : MN × Hd × NT, (∀ j v, q.1.cells[j]? = some v → W.cell? (a.add (i * 7 + j)) = some v) ∧ HR W q.1 q.2.1 ∧ TreeAt W q.1.kids q.2.2 ∧ q.2.1.attrs.length ≤ 9223372036854775807 ∧ q.2.2.len ≤ 9223372036854775807 ∧ RightT q.2.2 := fun i hi => by
        obtain ⟨cs', y, hl', hc', hy⟩ := hx i hi
        obtain ⟨xs, k, hk, _, _, hxl, hf⟩ := DataW.trod_struct Try.underlying48 hy
        have hxl : xs.length = 7 := hxl
        match cs', hl' with
        | [v0, v1, v2, v3, v4, v5, v6], _ =>
          obtain ⟨y0, g0⟩ := field_in 0 v0 rfl (hf 0 _ rfl) (by omega) (by kernel_rfl)
          obtain ⟨y1, g1⟩ := field_in 1 v1 rfl (hf 1 _ rfl) (by omega) (by kernel_rfl)
          obtain ⟨y2, g2⟩ := field_in 2 v2 rfl (hf 2 _ rfl) (by omega) (by kernel_rfl)
          obtain ⟨y3, g3⟩ := field_in 3 v3 rfl (hf 3 _ rfl) (by omega) (by kernel_rfl)
          obtain ⟨y4, g4⟩ := field_in 4 v4 rfl (hf 4 _ rfl) (by omega) (by kernel_rfl)
          obtain ⟨y5, g5⟩ := field_in 5 v5 rfl (hf 5 _ rfl) (by omega) (by kernel_rfl)
          obtain ⟨y6, g6⟩ := field_in 6 v6 rfl (hf 6 _ rfl) (by omega) (by kernel_rfl)
          obtain ⟨z0, e0, _⟩ := DataW.trod_int Try.underlying3 g0
          obtain ⟨z1, e1, _⟩ := DataW.trod_int Try.underlying3 g1
          obtain ⟨s2, e2, _⟩ := DataW.trod_string Try.underlying9 g2
          obtain ⟨v, l, e3, ha, hal⟩ := attrs_in g3
          obtain ⟨s4, e4, _⟩ := DataW.trod_string Try.underlying9 g4
          obtain ⟨z5, e5, _⟩ := DataW.trod_int Try.underlying3 g5
          obtain ⟨vk, t, e6, ht, hr, htl⟩ := ih k (by omega) _ _ g6
          have e0 : v0 = .int .i64 z0 := by simpa using e0
          have e1 : v1 = .int .i64 z1 := by simpa using e1
          have e2 : v2 = .string s2 := by simpa using e2
          have e3 : v3 = v := by simpa using e3
          have e4 : v4 = .string s4 := by simpa using e4
          have e5 : v5 = .int .i64 z5 := by simpa using e5
          have e6 : v6 = vk := by simpa using e6
          subst e0; subst e1; subst e2; subst e3; subst e4; subst e5; subst e6
          exact ⟨(⟨z0, z1, s2, v3, s4, z5, v6⟩, ⟨z0, z1, s2, l, s4, z5⟩, t), hc', ⟨rfl, rfl, rfl, ha, rfl, rfl⟩, ht, hal, htl, hr⟩
      obtain ⟨l, hll, hp⟩ := ex_list tr0 len this
      have hmem : ∀ q ∈ l, HR W q.1 q.2.1 ∧ TreeAt W q.1.kids q.2.2 ∧ q.2.1.attrs.length ≤ 9223372036854775807 ∧ q.2.2.len ≤ 9223372036854775807 ∧ RightT q.2.2 := fun q hq => by
        obtain ⟨i, hi, he⟩ := List.getElem_of_mem hq
        have := hp i (by omega)
        rw [List.getD_eq_getElem?_getD, List.getElem?_eq_getElem hi] at this
        simp only [Option.getD_some, he] at this
        exact this.2
      have hone : ∀ u ∈ encN (l.map (·.1)), u.oneCell' = true := by
        clear hll hp
        induction l with
        | nil => intro u hu; cases hu
        | cons q r ihr =>
          obtain ⟨m, x, k⟩ := q
          have hq := hmem (m, x, k) (by simp)
          obtain ⟨A1, c1, h1, _⟩ := hq.1.2.2.2.1.form
          obtain ⟨A2, c2, h2, _⟩ := hq.2.1.form
          intro u hu
          simp only [List.map_cons, encN, List.mem_cons] at hu
          rcases hu with rfl | rfl | rfl | rfl | rfl | rfl | rfl | hu
          · rfl
          · rfl
          · rfl
          · rw [h1]; rfl
          · rfl
          · rfl
          · rw [h2]; rfl
          · exact ihr (fun q hq => hmem q (by simp [hq])) u hu
      refine ⟨_, ntOf l, rfl, ⟨l.map (·.1), ⟨encN_len _, hone, some a, cap, by rw [List.length_map, hll], by rw [List.length_map]; omega, fun hpos => ?_⟩, ntOf_rows l (fun q hq => ⟨(hmem q hq).1, (hmem q hq).2.1⟩)⟩, ntOf_right l (fun q hq => (hmem q hq).2.2), by rw [ntOf_len]; omega⟩
      rw [List.length_map] at hpos
      obtain ⟨b, o, rfl⟩ := spot_none ((hp 0 (by omega)).1 0 _ rfl)
      refine ⟨b, o, rfl, fun j u hj => ?_⟩
      have hjl := (List.getElem?_eq_some_iff.1 hj).1
      rw [encN_len, List.length_map] at hjl
      have hi : j / 7 < (l.map (·.1)).length := by rw [List.length_map]; omega
      have hc := hp (j / 7) (by omega)
      have hr7 : j % 7 < 7 := Nat.mod_lt _ (by decide)
      have hcl : ((l.map (·.1)).getD (j / 7) MN.z).cells.length = 7 := rfl
      have hg := encN_get (l.map (·.1)) (j / 7) hi (j % 7) _ (List.getElem?_eq_getElem (by omega))
      have e : j / 7 * 7 + j % 7 = j := by omega
      rw [e] at hg
      rw [hj] at hg
      cases hg
      have hm1 : (l.map (·.1)).getD (j / 7) MN.z = (l.getD (j / 7) tr0).1 := by
        rw [List.getD_eq_getElem?_getD, List.getD_eq_getElem?_getD, List.getElem?_map, List.getElem?_eq_getElem (by omega)]; rfl
      have hcc := hc.1 (j % 7) _ (by rw [← hm1]; exact List.getElem?_eq_getElem (by omega))
      rw [addr_add, e] at hcc
      exact hcc
end
theorem tree_of {H : Type} {enc : TypeId × Value → H} {W : World} {a : Option Addr} {len cap : Nat} {d : DataW H} {ps : List MemPlace} (h : DataW.Trod enc Try.prog W 0 (fun _ => true) true 31 (.slice a len cap) d ps) : ∃ t, TreeAt W (.slice a len cap) t ∧ RightT t ∧ t.len ≤ 9223372036854775807 := by
  obtain ⟨fuel, hf⟩ := h
  obtain ⟨v, t, hv, h1, h2, h3⟩ := tree_in fuel _ _ hf
  have : v = .slice a len cap := by simpa [Value.cells] using hv.symm
  subst this
  exact ⟨t, h1, h2, h3⟩
end Go.Proofs.Ytjiehalanklapaa.V
