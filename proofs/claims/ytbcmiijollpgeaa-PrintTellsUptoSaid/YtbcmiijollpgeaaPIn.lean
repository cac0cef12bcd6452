import Derived.Test.YtbcmiijollpgeaaPTurn2
import Derived.Test.YtbcmiijollpgeaaRows
import Derived.Deep.Slices
import Derived.ProofKit
/- Articles that are handed in: what their reading tells; how much they hold. -/
namespace Go.Proofs.Ytbcmiijollpgeaa.T
open Go Go.Z Go.Proofs Go.ChangeShapes Go.WideShapes
open Go.Proofs.Ytbcmiijollpgeaa.Rows (uptoBulk uptoBulkAll uptoSmall)
set_option linter.unusedVariables false
theorem ex_list {α : Type} (d : α) {p : Nat → α → Prop} : ∀ n, (∀ i, i < n → ∃ a, p i a) → ∃ l : List α, l.length = n ∧ ∀ i, i < n → p i (l.getD i d)
  | 0, _ => ⟨[], rfl, fun i hi => by omega⟩
  | n + 1, h => by
    obtain ⟨l, h1, h2⟩ := ex_list d n (fun i hi => h i (by omega))
    obtain ⟨a, ha⟩ := h n (by omega)
    refine ⟨l ++ [a], by simp [h1], fun i hi => ?_⟩
    by_cases hn : i = l.length
    · subst hn
      have : (l ++ [a]).getD l.length d = a := by simp [List.getD_eq_getElem?_getD]
      rw [this, h1]; exact ha
    · have : (l ++ [a]).getD i d = l.getD i d := by
        rw [List.getD_eq_getElem?_getD, List.getD_eq_getElem?_getD, List.getElem?_append_left (by omega)]
      rw [this]; exact h2 i (by omega)
theorem spot_none {W : World} {x : Addr} {v : Value} (h : W.cell? (x.add 0) = some v) : ∃ b o, x = ⟨b, o, none⟩ := by
  obtain ⟨b, o, s⟩ := x
  have := World.cell?_spot h
  have hs : s = none := by simpa [Addr.add] using this
  subst hs
  exact ⟨b, o, rfl⟩
theorem bs_of (s : ByteArray) : s = bs s.data.toList := by cases s; rfl
section
variable {H : Type} {enc : TypeId × Value → H} {W : World} {base : Nat} {sp : Nat → Bool} {hd : Bool}
theorem take1 {cs : List Value} {j : Nat} {v : Value} (h : cs[j]? = some v) : (cs.drop j).take 1 = [v] := by
  have hj : j < cs.length := (List.getElem?_eq_some_iff.1 h).1
  rw [List.drop_eq_getElem_cons hj]
  rw [List.getElem?_eq_getElem hj] at h
  rw [Option.some.inj h]; rfl
/-- the rows of a slice, element by element -/
theorem slice_in {t e c fuel : Nat} {cs : List Value} {x : DataW H × List MemPlace} (ht : (Try.prog).underlying t = some (.slice e)) (hc : (Try.prog).cellsOf e = c) (h : DataW.trod enc Try.prog W base sp hd fuel t cs = some x) :
    (cs = [.slice none 0 0]) ∨ ∃ (a : Addr) (len cap n : Nat) (es : List (DataW H × List MemPlace)) (re : List (DataW H)), fuel = n + 1 ∧ cs = [.slice (some a) len cap] ∧ len ≤ cap ∧ cap ≤ maxLen ∧ es.length = len ∧ uptoBulk x.1 = uptoBulkAll (es.map (·.1)) + uptoBulkAll re + 1 ∧
      ∀ i, i < len → ∃ cs' y, cs'.length = c ∧ (∀ j v, cs'[j]? = some v → W.cell? (a.add (i * c + j)) = some v) ∧ DataW.trod enc Try.prog W base sp hd n e cs' = some y ∧ es[i]? = some y := by
  rcases DataW.trod_slice ht h with ⟨h0, _⟩ | ⟨a, len, cap, elems, rest, n, hf, rfl, hxx, hb, hl, hm, hlen, hel, _⟩
  · exact .inl h0
  · refine .inr ⟨a, len, cap, n, elems, rest.map (·.1), hf, rfl, hl, hm, hlen, by rw [hxx]; simp only [uptoBulk], fun i hi => ?_⟩
    have key := hel i hi
    rw [hc, List.getElem?_eq_getElem (by omega)] at key
    obtain ⟨cs', h1, h2⟩ := Option.bind_eq_some_iff.1 key
    obtain ⟨_, hlen', hcell⟩ := World.cells?_some h1
    refine ⟨cs', _, hlen', fun j v hj => ?_, h2, List.getElem?_eq_getElem (by omega)⟩
    have hjl : j < c := by have := (List.getElem?_eq_some_iff.1 hj).1; omega
    have := hcell j hjl
    rw [Go.Deep.add_add] at this
    rw [this, hj]
theorem field_in {n t : Nat} {cs' : List Value} {xs : List (DataW H × List MemPlace)} (j : Nat) (v : Value) (hv : cs'[j]? = some v) (g : DataW.trod enc Try.prog W base sp hd n t ((cs'.drop j).take ((Try.prog).cellsOf t)) = xs[j]?) (hx : j < xs.length) (hc : (Try.prog).cellsOf t = 1) : ∃ y, DataW.trod enc Try.prog W base sp hd n t [v] = some y ∧ xs[j]? = some y := by
  rw [hc, List.getElem?_eq_getElem hx, take1 hv] at g
  exact ⟨_, g, List.getElem?_eq_getElem hx⟩
theorem maxLen_le : maxLen ≤ 9223372036854775807 := by simp [maxLen]
theorem bulk1 (d : DataW H) : 1 ≤ uptoBulk d := by
  cases d with
  | lit l => cases l <;> simp [uptoBulk]
  | nil => simp [uptoBulk]
  | ptr d => simp [uptoBulk]
  | slice elems spare => simp [uptoBulk]
  | agg parts => simp [uptoBulk]
  | iface t d => simp [uptoBulk]
  | map entries => simp [uptoBulk]
  | held h => simp [uptoBulk]
theorem xs2 {α : Type} {xs : List α} {y0 y1 : α} (hl : xs.length = 2) (h0 : xs[0]? = some y0) (h1 : xs[1]? = some y1) : xs = [y0, y1] := by
  match xs, hl with
  | [a, b], _ => simp at h0 h1; rw [h0, h1]
theorem xs5 {α : Type} {xs : List α} {y0 y1 y2 y3 y4 : α} (hl : xs.length = 5) (h0 : xs[0]? = some y0) (h1 : xs[1]? = some y1) (h2 : xs[2]? = some y2) (h3 : xs[3]? = some y3) (h4 : xs[4]? = some y4) : xs = [y0, y1, y2, y3, y4] := by
  match xs, hl with
  | [a, b, c, d, e], _ => simp at h0 h1 h2 h3 h4; rw [h0, h1, h2, h3, h4]
def wtA (a : At) : Nat := a.1.length + 6 * a.2.length + 4
theorem attrs_sum : ∀ (l : List At) (es : List (DataW H × List MemPlace)), l.length = es.length → (∀ i y, es[i]? = some y → wtA (l.getD i at0) ≤ 6 * uptoBulk y.1) → attrsN l ≤ 6 * uptoBulkAll (es.map (·.1))
  | [], [], _, _ => Nat.zero_le _
  | [], _ :: _, h, _ => by simp at h
  | _ :: _, [], h, _ => by simp at h
  | a :: l, e :: es, h, hp => by
    have h1 := hp 0 e rfl
    have h2 := attrs_sum l es (by simpa using h) (fun i y hy => by have := hp (i + 1) y (by simpa using hy); simpa using this)
    simp only [List.getD_cons_zero, wtA] at h1
    simp only [attrsN, List.map_cons, uptoBulkAll]; omega
set_option maxRecDepth 100000 in
theorem attrs_in {fuel : Nat} {cs : List Value} {x : DataW H × List MemPlace} (h : DataW.trod enc Try.prog W base sp hd fuel 24 cs = some x) : ∃ v l, cs = [v] ∧ AttrS false W v l ∧ attrsN l + 6 ≤ 6 * uptoBulk x.1 := by
  rcases slice_in (c := 2) Try.underlying24 (by kernel_rfl) h with rfl | ⟨a, len, cap, n, es, re, _, rfl, hl, hm, hel, hbk, hx⟩
  · exact ⟨_, [], rfl, AttrS.nil W, by have := bulk1 x.1; simp only [attrsN]; omega⟩
  · have : ∀ i, i < len → ∃ m : At, W.cell? (a.add (i * 2 + 0)) = some (.string (bs m.1)) ∧ W.cell? (a.add (i * 2 + 1)) = some (.string (bs m.2)) ∧ ∀ y, es[i]? = some y → wtA m ≤ 6 * uptoBulk y.1 := fun i hi => by
      obtain ⟨cs', y, hl', hc', hy, hes⟩ := hx i hi
      obtain ⟨xs, k, _, hyx, _, hxl, hf⟩ := DataW.trod_struct Try.underlying33 hy
      have hxl : xs.length = 2 := hxl
      match cs', hl' with
      | [v0, v1], _ =>
        obtain ⟨y0, g0, q0⟩ := field_in 0 v0 rfl (hf 0 _ rfl) (by omega) (by kernel_rfl)
        obtain ⟨y1, g1, q1⟩ := field_in 1 v1 rfl (hf 1 _ rfl) (by omega) (by kernel_rfl)
        obtain ⟨s0, e0, k0, _⟩ := DataW.trod_string Try.underlying9 g0
        obtain ⟨s1, e1, k1, _⟩ := DataW.trod_string Try.underlying9 g1
        have e0 : v0 = .string s0 := by simpa using e0
        have e1 : v1 = .string s1 := by simpa using e1
        subst e0; subst e1
        have hxs := xs2 hxl q0 q1
        refine ⟨(s0.data.toList, s1.data.toList), by rw [← bs_of]; exact hc' 0 _ rfl, by rw [← bs_of]; exact hc' 1 _ rfl, fun y' hy' => ?_⟩
        rw [hes] at hy'; cases hy'
        rw [hyx, hxs, k0, k1]
        simp only [List.map_cons, List.map_nil, uptoBulk, uptoBulkAll, wtA]; omega
    obtain ⟨l, hll, hp⟩ := ex_list at0 len this
    have hsum := attrs_sum l es (by omega) (fun i y hy => (hp i (by have := (List.getElem?_eq_some_iff.1 hy).1; omega)).2.2 y hy)
    refine ⟨_, l, rfl, ⟨⟨encA_len l, encA_one l, some a, cap, by rw [hll], by omega, fun hpos => ?_⟩, fun h => by cases h⟩, by omega⟩
    obtain ⟨b, o, rfl⟩ := spot_none (hp 0 (by omega)).1
    refine ⟨b, o, rfl, fun j u hj => ?_⟩
    have hjl := (List.getElem?_eq_some_iff.1 hj).1
    rw [encA_len] at hjl
    obtain ⟨c0, c1, _⟩ := hp (j / 2) (by omega)
    obtain ⟨g0, g1⟩ := encA_get l (j / 2) (by omega)
    rw [addr_add] at c0 c1
    by_cases hm2 : j % 2 = 0
    · have e : j / 2 * 2 = j := by omega
      rw [e] at g0 c0
      rw [hj] at g0; cases g0; exact c0
    · have e : j / 2 * 2 + 1 = j := by omega
      rw [e] at g1 c1
      rw [hj] at g1; cases g1; exact c1
def atOf : List (MA × Hd × AT) → AT
  | [] => .nil
  | (_, x, k) :: r => .cons x k (atOf r)
theorem atOf_len : ∀ l, (atOf l).len = l.length
  | [] => rfl
  | (_, x, k) :: r => by simp [atOf, AT.len, atOf_len r]
theorem atOf_rows : ∀ l : List (MA × Hd × AT), (∀ q ∈ l, HR false W q.1 q.2.1 ∧ TreeAt false W q.1.kids q.2.2) → Rows false W (atOf l) (l.map (·.1))
  | [], _ => rfl
  | (m, x, k) :: r, h => by
    have h1 := h (m, x, k) (by simp)
    exact ⟨m, _, rfl, h1.1, h1.2, atOf_rows r (fun q hq => h q (by simp [hq]))⟩
def tr0 : MA × Hd × AT := (MA.z, ⟨[], [], []⟩, .nil)
theorem tree_sum : ∀ (l : List (MA × Hd × AT)) (es : List (DataW H × List MemPlace)), l.length = es.length → (∀ i y, es[i]? = some y → wtH (l.getD i tr0).2.1 (l.getD i tr0).2.2 ≤ 6 * uptoBulk y.1) → (atOf l).wt ≤ 6 * uptoBulkAll (es.map (·.1))
  | [], [], _, _ => Nat.zero_le _
  | [], _ :: _, h, _ => by simp at h
  | _ :: _, [], h, _ => by simp at h
  | (m, x, k) :: l, e :: es, h, hp => by
    have h1 := hp 0 e rfl
    have h2 := tree_sum l es (by simpa using h) (fun i y hy => by have := hp (i + 1) y (by simpa using hy); simpa using this)
    simp only [List.getD_cons_zero, wtH] at h1
    simp only [atOf, AT.wt, List.map_cons, uptoBulkAll]; omega
set_option maxRecDepth 100000 in
theorem tree_in : ∀ (fuel : Nat) (cs : List Value) (x : DataW H × List MemPlace), DataW.trod enc Try.prog W base sp hd fuel 23 cs = some x → ∃ v t, cs = [v] ∧ TreeAt false W v t ∧ t.wt ≤ 6 * uptoBulk x.1 := by
  intro fuel
  induction fuel using Nat.strongRecOn with
  | ind fuel ih =>
    intro cs x h
    have hml := maxLen_le
    rcases slice_in (c := 5) Try.underlying23 (by kernel_rfl) h with rfl | ⟨a, len, cap, n, es, re, hfn, rfl, hl, hm, hel, hbk, hx⟩
    · exact ⟨_, .nil, rfl, TreeAt.nil, Nat.zero_le _⟩
    · have : ∀ i, i < len → ∃ q : MA × Hd × AT, (∀ j v, q.1.cells[j]? = some v → W.cell? (a.add (i * 5 + j)) = some v) ∧ HR false W q.1 q.2.1 ∧ TreeAt false W q.1.kids q.2.2 ∧ ∀ y, es[i]? = some y → wtH q.2.1 q.2.2 ≤ 6 * uptoBulk y.1 := fun i hi => by
        obtain ⟨cs', y, hl', hc', hy, hes⟩ := hx i hi
        obtain ⟨xs, k, hk, hyx, _, hxl, hf⟩ := DataW.trod_struct Try.underlying38 hy
        have hxl : xs.length = 5 := hxl
        match cs', hl' with
        | [v0, v1, v2, v3, v4], _ =>
          obtain ⟨y0, g0, q0⟩ := field_in 0 v0 rfl (hf 0 _ rfl) (by omega) (by kernel_rfl)
          obtain ⟨y1, g1, q1⟩ := field_in 1 v1 rfl (hf 1 _ rfl) (by omega) (by kernel_rfl)
          obtain ⟨y2, g2, q2⟩ := field_in 2 v2 rfl (hf 2 _ rfl) (by omega) (by kernel_rfl)
          obtain ⟨y3, g3, q3⟩ := field_in 3 v3 rfl (hf 3 _ rfl) (by omega) (by kernel_rfl)
          obtain ⟨y4, g4, q4⟩ := field_in 4 v4 rfl (hf 4 _ rfl) (by omega) (by kernel_rfl)
          obtain ⟨s0, e0, k0, _⟩ := DataW.trod_string Try.underlying9 g0
          obtain ⟨v, l, e1, ha, hal⟩ := attrs_in g1
          obtain ⟨s2, e2, k2, _⟩ := DataW.trod_string Try.underlying9 g2
          have hF : isSl v3 := by
            rcases DataW.trod_slice Try.underlying22 g3 with ⟨h0, _⟩ | ⟨a', len', cap', _, _, _, _, h0, _⟩
            · have h0 : v3 = .slice none 0 0 := by simpa using h0
              exact ⟨_, _, _, h0⟩
            · have h0 : v3 = .slice (some a') len' cap' := by simpa using h0
              exact ⟨_, _, _, h0⟩
          obtain ⟨vk, t, e4, ht, htw⟩ := ih k (by omega) _ _ g4
          have e0 : v0 = .string s0 := by simpa using e0
          have e1 : v1 = v := by simpa using e1
          have e2 : v2 = .string s2 := by simpa using e2
          have e4 : v4 = vk := by simpa using e4
          subst e0; subst e1; subst e2; subst e4
          have hxs := xs5 hxl q0 q1 q2 q3 q4
          refine ⟨(⟨s0.data.toList, v1, s2.data.toList, v3, v4⟩, ⟨s0.data.toList, l, s2.data.toList⟩, t), fun j v hj => hc' j v (by simpa only [MA.cells, ← bs_of] using hj), ⟨rfl, ha, rfl, hF⟩, ht, fun y' hy' => ?_⟩
          rw [hes] at hy'; cases hy'
          have hb3 := bulk1 y3.1
          rw [hyx, hxs, k0, k2]
          simp only [List.map_cons, List.map_nil, uptoBulk, uptoBulkAll, wtH]; omega
      obtain ⟨l, hll, hp⟩ := ex_list tr0 len this
      have hsum := tree_sum l es (by omega) (fun i y hy => (hp i (by have := (List.getElem?_eq_some_iff.1 hy).1; omega)).2.2.2 y hy)
      have hmem : ∀ q ∈ l, HR false W q.1 q.2.1 ∧ TreeAt false W q.1.kids q.2.2 := fun q hq => by
        obtain ⟨i, hi, he⟩ := List.getElem_of_mem hq
        have := hp i (by omega)
        rw [List.getD_eq_getElem?_getD, List.getElem?_eq_getElem hi] at this
        simp only [Option.getD_some, he] at this
        exact ⟨this.2.1, this.2.2.1⟩
      have hone : ∀ u ∈ encM (l.map (·.1)), u.oneCell' = true := by
        clear hll hp hsum
        induction l with
        | nil => intro u hu; cases hu
        | cons q r ihr =>
          obtain ⟨m, x, k⟩ := q
          have hq := hmem (m, x, k) (by simp)
          obtain ⟨A1, c1, h1, _⟩ := hq.1.2.1.form
          obtain ⟨A2, m2, c2, h2⟩ := hq.1.2.2.2
          obtain ⟨A3, c3, h3, _⟩ := hq.2.form
          intro u hu
          simp only [List.map_cons, encM, List.mem_cons] at hu
          rcases hu with rfl | rfl | rfl | rfl | rfl | hu
          · rfl
          · rw [h1]; rfl
          · rfl
          · rw [h2]; rfl
          · rw [h3]; rfl
          · exact ihr (fun q hq => hmem q (by simp [hq])) u hu
      refine ⟨_, atOf l, rfl, ⟨l.map (·.1), ⟨⟨encM_len _, hone, some a, cap, by rw [List.length_map, hll], by rw [List.length_map]; omega, fun hpos => ?_⟩, fun h => by cases h⟩, atOf_rows l hmem⟩, by omega⟩
      rw [List.length_map] at hpos
      obtain ⟨b, o, rfl⟩ := spot_none ((hp 0 (by omega)).1 0 _ rfl)
      refine ⟨b, o, rfl, fun j u hj => ?_⟩
      have hjl := (List.getElem?_eq_some_iff.1 hj).1
      rw [encM_len, List.length_map] at hjl
      have hi : j / 5 < (l.map (·.1)).length := by rw [List.length_map]; omega
      have hc := hp (j / 5) (by omega)
      have hr5 : j % 5 < 5 := Nat.mod_lt _ (by decide)
      have hcl : ((l.map (·.1)).getD (j / 5) MA.z).cells.length = 5 := rfl
      have hg := encM_get (l.map (·.1)) (j / 5) hi (j % 5) _ (List.getElem?_eq_getElem (by omega))
      have e : j / 5 * 5 + j % 5 = j := by omega
      rw [e] at hg
      rw [hj] at hg
      cases hg
      have hm1 : (l.map (·.1)).getD (j / 5) MA.z = (l.getD (j / 5) tr0).1 := by
        rw [List.getD_eq_getElem?_getD, List.getD_eq_getElem?_getD, List.getElem?_map, List.getElem?_eq_getElem (by omega)]; rfl
      have hcc := hc.1 (j % 5) _ (by rw [← hm1]; exact List.getElem?_eq_getElem (by omega))
      rw [addr_add, e] at hcc
      exact hcc
end
theorem part_le {H : Type} {d : DataW H} {l : List (DataW H)} (h : d ∈ l) : uptoBulk d ≤ uptoBulkAll l := by
  induction l with
  | nil => cases h
  | cons x r ih =>
    simp only [uptoBulkAll]
    cases List.mem_cons.1 h with
    | inl e => subst e; omega
    | inr e => have := ih e; omega
theorem bulk_bound {H : Type} {l : List (DataW H)} (hk : uptoSmall H l = true) : uptoBulkAll l ≤ 1048576 := by
  simpa [uptoSmall] using hk
theorem tree_of {H : Type} {enc : TypeId × Value → H} {W : World} {a : Option Addr} {len cap : Nat} {d : DataW H} {ps : List MemPlace} {l : List (DataW H)} (h : DataW.Trod enc Try.prog W 0 (fun _ => true) true 23 (.slice a len cap) d ps) (hm : d ∈ l) (hk : uptoSmall H l = true) : ∃ t, TreeAt false W (.slice a len cap) t ∧ t.wt ≤ 6291456 := by
  obtain ⟨fuel, hf⟩ := h
  obtain ⟨v, t, hv, h1, h2⟩ := tree_in fuel _ _ hf
  have : v = .slice a len cap := by simpa [Value.cells] using hv.symm
  subst this
  have h3 := part_le hm
  dsimp only at h2
  have h4 := bulk_bound hk
  exact ⟨t, h1, by omega⟩
theorem attrs_of {H : Type} {enc : TypeId × Value → H} {W : World} {a : Option Addr} {len cap : Nat} {d : DataW H} {ps : List MemPlace} {l : List (DataW H)} (h : DataW.Trod enc Try.prog W 0 (fun _ => true) true 24 (.slice a len cap) d ps) (hm : d ∈ l) (hk : uptoSmall H l = true) : ∃ t, AttrS false W (.slice a len cap) t ∧ attrsN t ≤ 6291456 := by
  obtain ⟨fuel, hf⟩ := h
  obtain ⟨v, t, hv, h1, h2⟩ := attrs_in hf
  have : v = .slice a len cap := by simpa [Value.cells] using hv.symm
  subst this
  have h3 := part_le hm
  dsimp only at h2
  have h4 := bulk_bound hk
  exact ⟨t, h1, by omega⟩
end Go.Proofs.Ytbcmiijollpgeaa.T
