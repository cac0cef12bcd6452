import Derived.Test.YteeibieaapiomaaSNew
/- Elements in one another: what Add makes of a row of names. -/
namespace Go.Proofs.Yteeibieaapiomaa.D
open Go Go.Z Go.Proofs
set_option linter.unusedVariables false
def lnM (ns : List ByteArray) (j : Nat) : ByteArray := if j = 0 then ⟨#[]⟩ else ns.getD (j - 1) ⟨#[]⟩
def lnX (ns : List ByteArray) (j : Nat) : ND := ⟨1, 1, lnM ns j, [], [], (j : Int) - 1, if j < ns.length then [j + 1] else []⟩
def lnN (ns : List ByteArray) : List ND := (List.range (ns.length + 1)).map (lnX ns)
def lnE (ns : List ByteArray) : List Ent := (List.range (ns.length + 1)).map (fun j => ⟨j, 1, lnM ns j⟩)
theorem lnN_len (ns : List ByteArray) : (lnN ns).length = ns.length + 1 := by simp [lnN]
theorem lnE_len (ns : List ByteArray) : (lnE ns).length = ns.length + 1 := by simp [lnE]
theorem lnN_get (ns : List ByteArray) (i : Nat) (h : i ≤ ns.length) : (lnN ns).getD i n0 = lnX ns i := by
  unfold lnN
  rw [List.getD_eq_getElem?_getD, List.getElem?_map, List.getElem?_range (by omega)]; rfl
theorem lnE_get (ns : List ByteArray) (i : Nat) (h : i ≤ ns.length) : (lnE ns).getD i en0 = ⟨i, 1, lnM ns i⟩ := by
  unfold lnE
  rw [List.getD_eq_getElem?_getD, List.getElem?_map, List.getElem?_range (by omega)]; rfl
theorem lnM_snoc (ns : List ByteArray) (x : ByteArray) (j : Nat) (h : j ≤ ns.length) : lnM (ns ++ [x]) j = lnM ns j := by
  unfold lnM
  split
  · rfl
  · rw [List.getD_eq_getElem?_getD, List.getD_eq_getElem?_getD, List.getElem?_append_left (by omega)]
theorem lnM_last (ns : List ByteArray) (x : ByteArray) : lnM (ns ++ [x]) (ns.length + 1) = x := by
  unfold lnM
  rw [if_neg (by omega), List.getD_eq_getElem?_getD, show ns.length + 1 - 1 = ns.length by omega]
  simp
theorem lnE_snoc (ns : List ByteArray) (x : ByteArray) : lnE (ns ++ [x]) = lnE ns ++ [⟨ns.length + 1, 1, x⟩] := by
  have : (ns ++ [x]).length + 1 = ns.length + 1 + 1 := by simp
  unfold lnE
  rw [this, List.range_succ, List.map_append]
  congr 1
  · refine List.map_congr_left (fun j hj => ?_)
    rw [List.mem_range] at hj
    rw [lnM_snoc _ _ _ (by omega)]
  · simp [lnM_last]
theorem lnE_last (ns : List ByteArray) : lastE (lnE ns) = ⟨ns.length, 1, lnM ns ns.length⟩ := by
  unfold lastE
  rw [lnE_len, show ns.length + 1 - 1 = ns.length by omega, lnE_get _ _ (Nat.le_refl _)]
theorem nd_ext {N N' : List ND} (hl : N.length = N'.length) (h : ∀ i, i < N.length → N.getD i n0 = N'.getD i n0) : N = N' := by
  apply List.ext_getElem hl
  intro i h1 h2
  have := h i h1
  rw [List.getD_eq_getElem?_getD, List.getD_eq_getElem?_getD, List.getElem?_eq_getElem h1, List.getElem?_eq_getElem h2] at this
  exact this
theorem lnN_big (ns : List ByteArray) : BigT (lnN ns) := BigT.of (fun x hx => by
  obtain ⟨j, _, rfl⟩ := List.mem_map.1 hx
  exact ⟨by simp [lnX], by simp [lnX]⟩)
theorem lnN_zero : lnN [] = rootN := by rfl
theorem lnE_zero : lnE [] = [en0] := by rfl
def lnEl (x : ByteArray) : ND := ⟨1, 1, x, [], [], -1, []⟩
theorem lnN_succ (ns : List ByteArray) (x : ByteArray) : layN (lnN ns ++ [lnEl x]) (ns.length + 1) ns.length 0 = lnN (ns ++ [x]) := by
  have hcl := lnN_len ns
  have hl : (lnN ns ++ [lnEl x]).length = ns.length + 2 := by rw [List.length_append, hcl]; rfl
  have hsl : (ns ++ [x]).length = ns.length + 1 := by simp
  refine nd_ext (by rw [layN_len, hl, lnN_len, hsl]) (fun i hi => ?_)
  rw [layN_len, hl] at hi
  have gm : (lnN ns ++ [lnEl x]).getD ns.length n0 = lnX ns ns.length := by rw [getD_add, if_neg (by omega), lnN_get ns _ (Nat.le_refl _)]
  have gs : (lnN ns ++ [lnEl x]).getD (ns.length + 1) n0 = lnEl x := by rw [getD_add, if_pos hcl.symm]
  rw [layN_get (by omega) (by omega), lnN_get _ i (by omega), gm, gs]
  by_cases h1 : i = ns.length + 1
  · subst h1
    rw [if_pos rfl]
    unfold lnX lnEl
    rw [lnM_last, if_neg (by omega)]
    simp
  · rw [if_neg h1]
    by_cases h2 : i = ns.length
    · subst h2
      rw [if_pos rfl]
      unfold lnX insK
      rw [lnM_snoc _ _ _ (Nat.le_refl _)]
      simp
    · rw [if_neg h2, getD_add, if_neg (by omega), lnN_get ns i (by omega)]
      unfold lnX
      rw [if_pos (by omega), if_pos (by omega), lnM_snoc _ _ _ (by omega)]
theorem ln_put (ns : List ByteArray) (x : ByteArray) (hW : WF (lnN ns)) {p : Bool} {N' : List ND} (h : PutR (lnN ns ++ [lnEl x]) ((lnN ns).length : Nat) (ns.length : Nat) (-1) p N') : N' = lnN (ns ++ [x]) := by
  have hcl := lnN_len ns
  rw [hcl] at h
  have hl : (lnN ns ++ [lnEl x]).length = ns.length + 2 := by rw [List.length_append, hcl]; rfl
  have g1 : (lnN ns ++ [lnEl x]).getD (ns.length + 1) n0 = lnEl x := by rw [getD_add, if_pos hcl.symm]
  have g2 : (lnN ns ++ [lnEl x]).getD ns.length n0 = lnX ns ns.length := by rw [getD_add, if_neg (by omega), lnN_get ns _ (Nat.le_refl _)]
  have k2 : (lnX ns ns.length).kids = [] := by unfold lnX; simp
  have n1 : ndOf (lnN ns ++ [lnEl x]) ((ns.length + 1 : Nat) : Int) = lnEl x := by unfold ndOf; rw [Int.toNat_natCast]; exact g1
  have n2 : ndOf (lnN ns ++ [lnEl x]) (ns.length : Nat) = lnX ns ns.length := by unfold ndOf; rw [Int.toNat_natCast]; exact g2
  have hWx := hW.add (x := lnEl x) rfl rfl
  have hok : PutOk (lnN ns ++ [lnEl x]) ((ns.length + 1 : Nat) : Int) (ns.length : Nat) (-1) := by
    refine ⟨⟨by omega, by omega⟩, ⟨by omega, by omega⟩, by rw [n2]; rfl, by omega, by rw [n1]; exact (by decide : (-1 : Int) < 0), ?_, by rw [n2]; rfl⟩
    rw [Int.toNat_natCast, Int.toNat_natCast]
    intro ha
    have := Anc.fresh hWx (by omega) (by rw [g1]; rfl) ha
    omega
  rw [(h.1 hok).2, n2, k2, Int.toNat_natCast, Int.toNat_natCast]
  exact lnN_succ ns x
section
variable {w0 w w' : World} {s : Nat} {q : SP} {I : List Bool} {m : ByteArray → Int} {ns : List ByteArray}
theorem SF.addL (h : SF w0 w s q (lnE ns) I m (lnN ns) false) (hl : ns.length ≤ 1000) (x : ByteArray) {z : Int} (hz : z = ((ns.length + 1 : Nat) : Int)) :
    Calls Try.prog 23 [.pointer (some ⟨s, 0, none⟩), .int .i64 1, .string x, .slice none 0 0].toArray w fun e w' => e = .returned (.int .i64 z) ∧ ∃ q' I' m', SP.Eq q q' ∧ WrS w w' s q q' ∧ SF w0 w' s q' (lnE (ns ++ [x])) I' m' (lnN (ns ++ [x])) false := by
  subst hz
  refine (h.add (lnN_big ns) (by rw [lnN_len]; omega) 1 x (AttrS.nil _) (Nat.zero_le _)).mono ?_
  rintro e w' ⟨rfl, q', I', m', N', p, hq, hW, hR, _, _, hS⟩
  have hsp : spotN (lnN ns) (lnE ns) false (lastE (lnE ns)).n = (((ns.length : Nat) : Int), -1) := by rw [lnE_last]; exact if_neg (fun hh => absurd hh.1 Bool.false_ne_true)
  rw [hsp] at hR
  have := ln_put ns x h.wf hR
  subst this
  rw [lnN_len] at hS ⊢
  rw [lnE_snoc]
  exact ⟨rfl, q', I', m', hq, hW, hS⟩
end
theorem sNewL_calls {w0 w : World} (hc : Chg w0 w No) : Calls Try.prog 9 [].toArray w fun x w' => ∃ s q, x = .returned (.pointer (some ⟨s, 0, none⟩)) ∧ SF w0 w' s q (lnE []) [true] (fun _ => 0) (lnN []) false ∧ q.vm = .slice none 0 0 ∧ w0.heap.size ≤ q.pm := by
  rw [lnN_zero, lnE_zero]
  exact sNew_calls hc
end Go.Proofs.Yteeibieaapiomaa.D
