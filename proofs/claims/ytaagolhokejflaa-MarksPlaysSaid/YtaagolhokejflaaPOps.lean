import Derived.Test.YtaagolhokejflaaPPlays
import Derived.Deep.Slices
import Derived.ProofKit
/- A row of calls that is handed in: its numbers. -/
namespace Go.Proofs.Ytaagolhokejflaa.M
open Go Go.Z Go.Proofs
open Go.ChangeShapes Go.WideShapes
set_option linter.unusedVariables false
theorem int_field {H : Type} {enc : TypeId × Value → H} {P : Program} {W : World} {base : Nat} {sp : Nat → Bool} {hd : Bool} {n : Nat} {t : TypeId} {cs' : List Value} {xs : List (DataW H × List MemPlace)} (j : Nat) (v : Value) (hv : cs'[j]? = some v)
    (g : DataW.trod enc P W base sp hd n t ((cs'.drop j).take (P.cellsOf t)) = xs[j]?) (hx : j < xs.length) (ht : P.underlying t = some (.int .i64)) (hc : P.cellsOf t = 1) : ∃ z, v = .int .i64 z := by
  rw [hc, List.getElem?_eq_getElem hx] at g
  have hj : j < cs'.length := (List.getElem?_eq_some_iff.1 hv).1
  have e : (cs'.drop j).take 1 = [v] := by
    rw [List.drop_eq_getElem_cons hj]
    rw [List.getElem?_eq_getElem hj] at hv
    rw [Option.some.inj hv]; rfl
  rw [e] at g
  obtain ⟨z, h1, _⟩ := DataW.trod_int ht g
  exact ⟨z, by simpa using h1⟩
theorem IsOps.of {H : Type} {enc : TypeId × Value → H} {W : World} {a : Option Addr} {len cap : Nat} {d : DataW H} {ps : List MemPlace} (h : DataW.Trod enc Try.prog W 0 (fun _ => true) true 54 (.slice a len cap) d ps) : IsOps W a len cap := by
  obtain ⟨fuel, hf⟩ := h
  have hc : Program.cellsOf Try.prog 58 = 4 := by kernel_rfl
  have hc3 : Program.cellsOf Try.prog 3 = 1 := by kernel_rfl
  rcases Go.Deep.open_slice Try.underlying54 hf with ⟨hcs, _⟩ | ⟨x, l, c, m, n, D, Pl, hcs, _, hl, hm, hmm, _, hx⟩
  · simp [Value.cells] at hcs
    obtain ⟨rfl, rfl, rfl⟩ := hcs
    exact .inl ⟨rfl, rfl, rfl⟩
  · simp [Value.cells] at hcs
    obtain ⟨rfl, rfl, rfl⟩ := hcs
    refine .inr ⟨x, rfl, hl, hm, fun i hi => ?_⟩
    obtain ⟨cs', h1, h2⟩ := hx i (by rw [hmm]; simp; omega)
    rw [hc] at h1
    obtain ⟨_, hlen, hcell⟩ := World.cells?_some h1
    obtain ⟨xs, k, hk, hxy, _, hxl, hf⟩ := DataW.trod_struct Try.underlying58 h2
    have hxl : xs.length = 4 := hxl
    match cs', hlen with
    | [v0, v1, v2, v3], _ =>
      obtain ⟨z0, e0⟩ := int_field 0 v0 rfl (hf 0 _ rfl) (by omega) Try.underlying3 hc3
      obtain ⟨z1, e1⟩ := int_field 1 v1 rfl (hf 1 _ rfl) (by omega) Try.underlying3 hc3
      obtain ⟨z2, e2⟩ := int_field 2 v2 rfl (hf 2 _ rfl) (by omega) Try.underlying3 hc3
      obtain ⟨z3, e3⟩ := int_field 3 v3 rfl (hf 3 _ rfl) (by omega) Try.underlying3 hc3
      subst e0; subst e1; subst e2; subst e3
      have g0 := hcell 0 (by omega)
      have g1 := hcell 1 (by omega)
      have g2 := hcell 2 (by omega)
      have g3 := hcell 3 (by omega)
      rw [Go.Deep.add_add] at g0 g1 g2 g3
      exact ⟨z0, z1, z2, z3, g0, g1, g2, g3⟩
end Go.Proofs.Ytaagolhokejflaa.M
