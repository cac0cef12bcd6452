import Derived.Test.YteeibieaapiomaaDSound3
/- Same: the program's, the document's. -/
namespace Go.Proofs.Yteeibieaapiomaa.D
open Go Go.Z Go.Proofs
set_option linter.unusedVariables false
theorem eq_attr {w : World} {a b c d : ByteArray} (k : Nat) : (Op.equalIn (k + 5) 89 (.agg #[.string a, .string b]) (.agg #[.string c, .string d])).run Try.prog w = .ok (decide (a = c) && (decide (b = d) && true)) w := by
  refine eq_struct Try.underlying89 (by kernel_rfl) ?_
  refine eqF_cons (by rfl) (part1 rfl) (part1 rfl) eq_str ?_
  exact eqF_cons (by rfl) (part1 rfl) (part1 rfl) eq_str eqF_nil
theorem take_getD {α : Type} (d : α) {l : List α} {k : Nat} (h : k < l.length) : l.take (k + 1) = l.take k ++ [l.getD k d] := by
  rw [List.take_succ_eq_append_getElem h, List.getD_eq_getElem?_getD, List.getElem?_eq_getElem h]; rfl
theorem Hd.ext' {a b : Hd} (h1 : a.kind = b.kind) (h2 : a.space = b.space) (h3 : a.name = b.name) (h4 : a.attrs = b.attrs) (h5 : a.text = b.text) (h6 : a.fr = b.fr) : a = b := by
  cases a; cases b; simp_all
def hdV (x : Hd) (A K : Value) : Value := .agg #[.int .i64 x.kind, .int .i64 x.space, .string x.name, A, .string x.text, .int .i64 x.fr, K]
theorem no_ {p : Prop} (h : ¬ p) : ((false : Bool) = true ↔ p) := iff_of_false Bool.false_ne_true h
theorem drop_iff {t1 t2 k k' r r' : NT} {i : Nat} {x y : Hd} (hd : t1.dropN i = t2.dropN i ↔ t1 = t2) (e1 : t1.dropN i = .cons x k r) (e2 : t2.dropN i = .cons y k' r') (hx : x = y) (hk : k = k') : t1.dropN (i + 1) = t2.dropN (i + 1) ↔ t1 = t2 := by
  rw [t1.drop_succ i _ _ _ e1, t2.drop_succ i _ _ _ e2, ← hd, e1, e2, hx, hk]
  simp
end Go.Proofs.Yteeibieaapiomaa.D
