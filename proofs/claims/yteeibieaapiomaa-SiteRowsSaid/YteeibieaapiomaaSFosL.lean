import Derived.Test.YteeibieaapiomaaSKn
/- SiteFosters: the law. -/
namespace Go.Proofs.Yteeibieaapiomaa.D
open Go Go.Z Go.Proofs
set_option linter.unusedVariables false
def sTbd : ByteArray := ⟨#[116, 98, 111, 100, 121]⟩
def fL : Nat → List ByteArray
  | 0 => []
  | 1 => [sTbl]
  | 2 => [sTbl, sTbd]
  | _ => [sTbl, sTbd, sTr]
def fNm : List ByteArray := [sTbl, sTbd, sTr]
theorem fL_succ : ∀ n, n < 3 → fL n ++ [fNm.getD n eb] = fL (n + 1) ∧ (fL n).length = n := by
  intro n hn
  match n, hn with
  | 0, _ | 1, _ | 2, _ => exact ⟨rfl, rfl⟩
theorem fL_len : ∀ n, n ≤ 3 → (fL n).length = n := by
  intro n hn
  match n, hn with
  | 0, _ | 1, _ | 2, _ | 3, _ => rfl
def rtF (ks : List Nat) : ND := ⟨1, 1, ⟨#[]⟩, [], [], -1, ks⟩
def elF (nm : ByteArray) (up : Int) (ks : List Nat) : ND := ⟨1, 1, nm, [], [], up, ks⟩
def txF (t : List UInt8) (up : Int) : ND := ⟨2, 0, ⟨#[]⟩, [], t, up, []⟩
def fN : Bool → Nat → List UInt8 → List ND
  | true, 1, t => [rtF [2, 1], elF sTbl 0 [], txF t 0]
  | true, 2, t => [rtF [3, 1], elF sTbl 0 [2], elF sTbd 1 [], txF t 0]
  | true, _, t => [rtF [4, 1], elF sTbl 0 [2], elF sTbd 1 [3], elF sTr 2 [], txF t 0]
  | false, 1, t => [rtF [1], elF sTbl 0 [2], txF t 1]
  | false, 2, t => [rtF [1], elF sTbl 0 [2], elF sTbd 1 [3], txF t 2]
  | false, _, t => [rtF [1], elF sTbl 0 [2], elF sTbd 1 [3], elF sTr 2 [4], txF t 3]
theorem WriteR.eq {N N' M : List ND} {s : List UInt8} {up ahead : Int} {p : Bool} (h : WriteR N s up ahead p N') (ho : WriteOk N up ahead) (he : writeN N s up.toNat ((placeN (ndOf N up).kids ahead).getD 0) = M) : N' = M := ((h.1 ho).2).trans he
theorem f_write1 {on : Bool} {n : Nat} (h1 : 1 ≤ n) (h3 : n ≤ 3) {x : UInt8} {r : List UInt8} {p : Bool} {N' : List ND} (h : WriteR (lnN (fL n)) (x :: r) (spotN (lnN (fL n)) (lnE (fL n)) on (n : Nat)).1 (spotN (lnN (fL n)) (lnE (fL n)) on (n : Nat)).2 p N') : N' = fN on n (x :: r) := by
  cases on <;> match n, h1, h3 with
  | 1, _, _ | 2, _, _ | 3, _, _ => exact h.eq ⟨⟨by decide, by decide⟩, by rfl, by rfl⟩ (by rfl)
theorem f_spot {on : Bool} {n : Nat} (h1 : 1 ≤ n) (h3 : n ≤ 3) (t : List UInt8) : spotN (fN on n t) (lnE (fL n)) on (n : Nat) = spotN (lnN (fL n)) (lnE (fL n)) on (n : Nat) := by
  cases on <;> match n, h1, h3 with
  | 1, _, _ | 2, _, _ | 3, _, _ => rfl
theorem f_write2 {on : Bool} {n : Nat} (h1 : 1 ≤ n) (h3 : n ≤ 3) (t : List UInt8) {x : UInt8} {r : List UInt8} {p : Bool} {N' : List ND} (h : WriteR (fN on n t) (x :: r) (spotN (fN on n t) (lnE (fL n)) on (n : Nat)).1 (spotN (fN on n t) (lnE (fL n)) on (n : Nat)).2 p N') : N' = fN on n (t ++ x :: r) := by
  rw [f_spot h1 h3] at h
  cases on <;> match n, h1, h3 with
  | 1, _, _ | 2, _, _ | 3, _, _ => exact h.eq ⟨⟨by (show (0:Int) ≤ _; decide), by (show _ < (_ : Int); simp [fN]; decide)⟩, by rfl, by rfl⟩ (by rfl)
theorem f_big {on : Bool} {n : Nat} (h1 : 1 ≤ n) (h3 : n ≤ 3) (t : List UInt8) (ht : t.length ≤ 1000) : BigT (fN on n t) := BigT.of (fun x hx => by
  cases on <;> match n, h1, h3 with
  | 1, _, _ | 2, _, _ | 3, _, _ =>
    simp only [fN, List.mem_cons, List.not_mem_nil, or_false] at hx
    rcases hx with rfl | rfl | rfl | rfl | rfl <;> (constructor <;> simp [rtF, elF, txF] <;> omega))
theorem f_treeOn {n : Nat} (h1 : 1 ≤ n) (h3 : n ≤ 3) (t : List UInt8) : ∃ x y k, x.text = bs t ∧ y.name = sTbl ∧ txts (.cons x .nil (.cons y k .nil)) = [bs t] ∧ TF (fN true n t) ((fN true n t).getD 0 n0).kids (.cons x .nil (.cons y k .nil)) ∧ (NT.cons x .nil (.cons y k .nil)).size ≤ 10 := by
  match n, h1, h3 with
  | 1, _, _ => exact ⟨hdOf (txF t 0), hdOf (elF sTbl 0 []), .nil, rfl, rfl, rfl, .cons _ _ _ _ .nil (.cons _ _ _ _ .nil .nil), Nat.le_of_ble_eq_true rfl⟩
  | 2, _, _ => exact ⟨hdOf (txF t 0), hdOf (elF sTbl 0 [2]), .cons (hdOf (elF sTbd 1 [])) .nil .nil, rfl, rfl, rfl, .cons _ _ _ _ .nil (.cons _ _ _ _ (.cons _ _ _ _ .nil .nil) .nil), Nat.le_of_ble_eq_true rfl⟩
  | 3, _, _ => exact ⟨hdOf (txF t 0), hdOf (elF sTbl 0 [2]), .cons (hdOf (elF sTbd 1 [3])) (.cons (hdOf (elF sTr 2 [])) .nil .nil) .nil, rfl, rfl, rfl, .cons _ _ _ _ .nil (.cons _ _ _ _ (.cons _ _ _ _ (.cons _ _ _ _ .nil .nil) .nil) .nil), Nat.le_of_ble_eq_true rfl⟩
theorem f_treeOff {n : Nat} (h1 : 1 ≤ n) (h3 : n ≤ 3) (t : List UInt8) : ∃ y k, y.name = sTbl ∧ (txts (.cons y k .nil)).length = 1 ∧ deepT (.cons y k .nil) = n + 1 ∧ TF (fN false n t) ((fN false n t).getD 0 n0).kids (.cons y k .nil) ∧ (NT.cons y k .nil).size ≤ 10 := by
  match n, h1, h3 with
  | 1, _, _ => exact ⟨hdOf (elF sTbl 0 [2]), .cons (hdOf (txF t 1)) .nil .nil, rfl, rfl, rfl, .cons _ _ _ _ (.cons _ _ _ _ .nil .nil) .nil, Nat.le_of_ble_eq_true rfl⟩
  | 2, _, _ => exact ⟨hdOf (elF sTbl 0 [2]), .cons (hdOf (elF sTbd 1 [3])) (.cons (hdOf (txF t 2)) .nil .nil) .nil, rfl, rfl, rfl, .cons _ _ _ _ (.cons _ _ _ _ (.cons _ _ _ _ .nil .nil) .nil) .nil, Nat.le_of_ble_eq_true rfl⟩
  | 3, _, _ => exact ⟨hdOf (elF sTbl 0 [2]), .cons (hdOf (elF sTbd 1 [3])) (.cons (hdOf (elF sTr 2 [4])) (.cons (hdOf (txF t 3)) .nil .nil) .nil) .nil, rfl, rfl, rfl, .cons _ _ _ _ (.cons _ _ _ _ (.cons _ _ _ _ (.cons _ _ _ _ .nil .nil) .nil) .nil) .nil, Nat.le_of_ble_eq_true rfl⟩
end Go.Proofs.Yteeibieaapiomaa.D
