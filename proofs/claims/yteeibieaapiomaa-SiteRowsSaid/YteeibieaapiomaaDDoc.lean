import Derived.Test.YteeibieaapiomaaDZ2
/- A Doc in memory. -/
namespace Go.Proofs.Yteeibieaapiomaa.D
open Go Go.Z Go.Proofs
set_option linter.unusedVariables false
structure ND where
  kind : Int
  space : Int
  name : ByteArray
  attrs : List At
  text : List UInt8
  up : Int
  kids : List Nat
structure PN where
  b : Nat
  va : Value
  vt : Value
  vk : Value
def n0 : ND := ⟨0, 0, ⟨#[]⟩, [], [], -1, []⟩
def q0 : PN := ⟨0, .slice none 0 0, .slice none 0 0, .slice none 0 0⟩
def intC (l : List Nat) : List Value := l.map (fun k => .int .i64 ((k : Nat) : Int))
theorem intC_len (l : List Nat) : (intC l).length = l.length * 1 := by simp [intC]
theorem intC_one (l : List Nat) : ∀ u ∈ intC l, u.oneCell' = true := by
  intro u hu
  obtain ⟨s, _, rfl⟩ := List.mem_map.1 hu
  rfl
theorem intC_get (l : List Nat) (i : Nat) (h : i < l.length) : (intC l)[i]? = some (.int .i64 ((l.getD i 0 : Nat) : Int)) := by
  simp [intC, List.getElem?_map, List.getElem?_eq_getElem h, List.getD_eq_getElem?_getD]
theorem intC_app (l r : List Nat) : intC (l ++ r) = intC l ++ intC r := List.map_append
def ptrC (Q : List PN) : List Value := Q.map (fun q => .pointer (some ⟨q.b, 0, none⟩))
def NodeAt (w : World) (q : PN) (x : ND) : Prop := Blk w q.b 80 [.int .i64 x.kind, .int .i64 x.space, .string x.name, q.va, q.vt, .int .i64 x.up, q.vk] ∧ AttrS w q.va x.attrs ∧ OwnB w 5 q.vt x.text ∧ Own w 3 1 q.vk x.kids.length (intC x.kids)
def nf (q : PN) (k : Nat) : Prop := k = q.b ∨ q.vt.ownBlock = some k ∨ q.vk.ownBlock = some k
structure IsD (w : World) (p : Nat) (vl : Value) (Q : List PN) (N : List ND) : Prop where
  blk : Blk w p 102 [vl]
  row : Own w 76 1 vl Q.length (ptrC Q)
  len : Q.length = N.length
  at_ : ∀ i, i < N.length → NodeAt w (Q.getD i q0) (N.getD i n0)
  ap : ∀ i j, i < N.length → j < N.length → i ≠ j → ∀ k, nf (Q.getD i q0) k → ¬ nf (Q.getD j q0) k
def foot (p : Nat) (vl : Value) (Q : List PN) (k : Nat) : Prop := k = p ∨ vl.ownBlock = some k ∨ ∃ i, i < Q.length ∧ nf (Q.getD i q0) k
section
variable {w w' : World} {p : Nat} {vl : Value} {Q : List PN} {N : List ND} {S : Nat → Prop}
theorem NodeAt.chg {q : PN} {x : ND} (h : NodeAt w q x) (hc : Chg w w' S) (hS : ∀ k, nf q k → ¬ S k) (h45 : ∀ b cells, Blk w b 89 cells → ¬ S b) : NodeAt w' q x :=
  ⟨h.1.chg hc (hS _ (.inl rfl)), RdS.chg h.2.1 hc h45, h.2.2.1.chg hc (fun k hk => hS k (.inr (.inl hk))), h.2.2.2.chg hc (fun k hk => hS k (.inr (.inr hk)))⟩
theorem IsD.chg (h : IsD w p vl Q N) (hc : Chg w w' S) (hS : ∀ k, foot p vl Q k → ¬ S k) (h45 : ∀ b cells, Blk w b 89 cells → ¬ S b) : IsD w' p vl Q N :=
  ⟨h.blk.chg hc (hS _ (.inl rfl)), h.row.chg hc (fun k hk => hS k (.inr (.inl hk))), h.len, fun i hi => (h.at_ i hi).chg hc (fun k hk => hS k (.inr (.inr ⟨i, by rw [h.len]; exact hi, hk⟩))) h45, h.ap⟩
theorem IsD.no (h : IsD w p vl Q N) (hc : Chg w w' No) : IsD w' p vl Q N := h.chg hc (fun _ _ => id) (fun _ _ _ => id)
theorem IsD.lt (h : IsD w p vl Q N) : ∀ k, foot p vl Q k → k < w.heap.size := by
  rintro k (rfl | hk | ⟨i, hi, rfl | hk | hk⟩)
  · exact h.blk.lt
  · exact h.row.lt hk
  · exact (h.at_ i (by rw [← h.len]; exact hi)).1.lt
  · exact (h.at_ i (by rw [← h.len]; exact hi)).2.2.1.lt hk
  · exact (h.at_ i (by rw [← h.len]; exact hi)).2.2.2.lt hk
theorem IsD.form (h : IsD w p vl Q N) : ∃ A c, vl = .slice A N.length c ∧ N.length ≤ c := by
  have := h.row.rd.form; rwa [h.len] at this
theorem ptrC_get (Q : List PN) (i : Nat) (h : i < Q.length) : (ptrC Q)[i]? = some (.pointer (some ⟨(Q.getD i q0).b, 0, none⟩)) := by
  simp [ptrC, List.getElem?_map, List.getElem?_eq_getElem h, List.getD_eq_getElem?_getD]
theorem IsD.ptr (h : IsD w p vl Q N) (i : Nat) (hi : i < N.length) : ∃ b o c, vl = .slice (some ⟨b, o, none⟩) N.length c ∧ w.cell? ⟨b, o + i, none⟩ = some (.pointer (some ⟨(Q.getD i q0).b, 0, none⟩)) := by
  obtain ⟨b, o, c, hv, _, hc⟩ := RdS.some h.row.rd (by rw [h.len]; omega)
  exact ⟨b, o, c, by rw [hv, h.len], hc i _ (ptrC_get Q i (by rw [h.len]; exact hi))⟩
end
def pv (p : Nat) : Value := .pointer (some ⟨p, 0, none⟩)
def isN (N : List ND) (n : Int) : Prop := 0 ≤ n ∧ n < N.length
instance (N : List ND) (n : Int) : Decidable (isN N n) := by unfold isN; infer_instance
def ndOf (N : List ND) (n : Int) : ND := N.getD n.toNat n0
theorem is_calls {w : World} {p : Nat} {vl : Value} {Q : List PN} {N : List ND} (h : IsD w p vl Q N) (n : Int) :
    Calls Try.prog 66 [.pointer (some ⟨p, 0, none⟩), .int .i64 n].toArray w fun e w' => e = .returned (.bool (decide (isN N n))) ∧ w' = w := by
  obtain ⟨A, c, rfl, hc⟩ := h.form
  have hb := h.blk
  refine calls_zc (n := 16) (f := 66) (fn := Try.f66) Try.func66 rfl rfl (by simp) ?_
  refine zc_seq ?_
  refine zc_region ?_
  refine zl_pureL rfl ?_
  refine zl_nil ?_
  refine zk_seq ?_
  refine zc_seq ?_
  refine zc_region ?_
  refine zl_pureL rfl ?_
  by_cases h0 : 0 ≤ n
  · by_cases h1 : n < N.length
    · refine z_cmpB (r := true) want_none (by decide) rfl rfl rfl (iff_of_true rfl (by omega)) ?_
      iterate 4 (refine zl_pureL rfl ?_)
      refine z_fa (want_L rfl) (by decide) rfl ?_
      refine z_loadB (want_L rfl) (by decide) rfl (by assumption) (by rfl) ?_
      refine z_len (want_L rfl) (by decide) rfl ?_
      refine z_cmpB (r := true) (want_L rfl) (by decide) rfl rfl rfl (iff_of_true rfl (by omega)) ?_
      iterate 2 (refine zl_pureL rfl ?_)
      refine zl_nil ?_
      refine zk_seq ?_
      refine zc_ret ?_
      exact zk_ret1 (.inr rfl) rfl rfl ⟨by simp [isN, h0, h1], rfl⟩
    · refine z_cmpB (r := true) want_none (by decide) rfl rfl rfl (iff_of_true rfl (by omega)) ?_
      iterate 4 (refine zl_pureL rfl ?_)
      refine z_fa (want_L rfl) (by decide) rfl ?_
      refine z_loadB (want_L rfl) (by decide) rfl (by assumption) (by rfl) ?_
      refine z_len (want_L rfl) (by decide) rfl ?_
      refine z_cmpB (r := false) (want_L rfl) (by decide) rfl rfl rfl (iff_of_false Bool.false_ne_true (by omega)) ?_
      iterate 2 (refine zl_pureL rfl ?_)
      refine zl_nil ?_
      refine zk_seq ?_
      refine zc_ret ?_
      exact zk_ret1 (.inr rfl) rfl rfl ⟨by simp [isN, h0, h1], rfl⟩
  · refine z_cmpB (r := false) want_none (by decide) rfl rfl rfl (iff_of_false Bool.false_ne_true (by omega)) ?_
    iterate 4 (refine zl_pureL rfl ?_)
    iterate 4 (refine zl_skip rfl ?_)
    iterate 2 (refine zl_pureL rfl ?_)
    refine zl_nil ?_
    refine zk_seq ?_
    refine zc_ret ?_
    exact zk_ret1 (.inr rfl) rfl rfl ⟨by simp [isN, h0], rfl⟩
theorem size_calls {w : World} {p : Nat} {vl : Value} {Q : List PN} {N : List ND} (h : IsD w p vl Q N) :
    Calls Try.prog 30 [.pointer (some ⟨p, 0, none⟩)].toArray w fun e w' => e = .returned (.int .i64 N.length) ∧ w' = w := by
  obtain ⟨A, c, rfl, hc⟩ := h.form
  have hb := h.blk
  refine calls_zc (n := 8) (f := 30) (fn := Try.f30) Try.func30 rfl rfl (by simp) ?_
  refine zc_seq ?_
  refine zc_region ?_
  refine zl_pureL rfl ?_
  refine zl_nil ?_
  refine zk_seq ?_
  refine zc_seq ?_
  refine zc_region ?_
  iterate 2 (refine zl_pureL rfl ?_)
  refine z_fa want_none (by decide) rfl ?_
  refine z_loadB want_none (by decide) rfl (by assumption) (by rfl) ?_
  refine z_len want_none (by decide) rfl ?_
  refine zl_pureL rfl ?_
  refine zl_nil ?_
  refine zk_seq ?_
  refine zc_ret ?_
  exact zk_ret1 (.inr rfl) rfl rfl ⟨rfl, rfl⟩
theorem elem_calls {w : World} {p : Nat} {vl : Value} {Q : List PN} {N : List ND} (h : IsD w p vl Q N) (n : Int) :
    Calls Try.prog 87 [.pointer (some ⟨p, 0, none⟩), .int .i64 n].toArray w fun e w' => e = .returned (.bool (decide (isN N n ∧ (ndOf N n).kind = 1))) ∧ w' = w := by
  refine calls_zc (n := 21) (f := 87) (fn := Try.f87) Try.func87 rfl rfl (by simp) ?_
  refine zc_seq ?_
  refine zc_region ?_
  refine zl_pureL rfl ?_
  refine zl_nil ?_
  refine zk_seq ?_
  refine zc_seq ?_
  refine zc_region ?_
  iterate 2 (refine zl_pureL rfl ?_)
  refine zl_call (by first | exact want_none | exact want_L rfl) rfl (by decide) rfl (is_calls h n) ?_
  rintro _ u ⟨rfl, hu⟩
  obtain rfl := hu.symm
  refine ⟨_, rfl, ?_⟩
  by_cases h0 : isN N n
  · rw [decide_eq_true h0]
    obtain ⟨i, rfl⟩ := Int.eq_ofNat_of_zero_le h0.1
    have hi : i < N.length := by have := h0.2; omega
    obtain ⟨b, o, c, hv, hp⟩ := h.ptr i hi
    subst hv
    have hb := h.blk
    have hn := (h.at_ i hi).1
    iterate 3 (refine zl_pureL rfl ?_)
    refine z_fa (want_L rfl) (by decide) rfl ?_
    refine z_loadB (want_L rfl) (by decide) rfl (by assumption) (by rfl) ?_
    refine zl_pureL rfl ?_
    refine z_ia (want_L rfl) (by decide) rfl rfl (by omega) (by omega) ?_
    refine z_load1 (by first | exact want_none | exact want_L rfl) (by decide) rfl (cell_at hp (by omega)) ?_
    refine zl_pureL rfl ?_
    refine z_fa (want_L rfl) (by decide) rfl ?_
    refine z_loadB (want_L rfl) (by decide) rfl (by assumption) (by rfl) ?_
    refine z_cmpB (r := decide ((N.getD i n0).kind = 1)) (by first | exact want_none | exact want_L rfl) (by decide) rfl rfl rfl (by simp) ?_
    by_cases hk : (N.getD i n0).kind = 1
    · rw [decide_eq_true hk]
      iterate 2 (refine zl_pureL rfl ?_)
      refine zl_nil ?_
      refine zk_seq ?_
      refine zc_ret ?_
      exact zk_ret1 (.inr rfl) rfl rfl ⟨by rw [decide_eq_true (show isN N i ∧ (ndOf N i).kind = 1 from ⟨h0, hk⟩)], rfl⟩
    · rw [decide_eq_false hk]
      iterate 2 (refine zl_pureL rfl ?_)
      refine zl_nil ?_
      refine zk_seq ?_
      refine zc_ret ?_
      exact zk_ret1 (.inr rfl) rfl rfl ⟨by rw [decide_eq_false (show ¬ (isN N i ∧ (ndOf N i).kind = 1) from fun hh => hk hh.2)], rfl⟩
  · rw [decide_eq_false h0]
    iterate 3 (refine zl_pureL rfl ?_)
    iterate 2 (refine zl_skip rfl ?_)
    refine zl_pureL rfl ?_
    iterate 2 (refine zl_skip rfl ?_)
    refine zl_pureL rfl ?_
    iterate 3 (refine zl_skip rfl ?_)
    iterate 2 (refine zl_pureL rfl ?_)
    refine zl_nil ?_
    refine zk_seq ?_
    refine zc_ret ?_
    exact zk_ret1 (.inr rfl) rfl rfl ⟨by rw [decide_eq_false (show ¬ (isN N n ∧ (ndOf N n).kind = 1) from fun hh => h0 hh.1)], rfl⟩
def upOf (N : List ND) (n : Int) : Int := if isN N n then (ndOf N n).up else -1
theorem up_calls {w : World} {p : Nat} {vl : Value} {Q : List PN} {N : List ND} (h : IsD w p vl Q N) (n : Int) :
    Calls Try.prog 83 [.pointer (some ⟨p, 0, none⟩), .int .i64 n].toArray w fun e w' => e = .returned (.int .i64 (upOf N n)) ∧ w' = w := by
  refine calls_zc (n := 19) (f := 83) (fn := Try.f83) Try.func83 rfl rfl (by simp) ?_
  refine zc_seq ?_
  refine zc_region ?_
  refine zl_pureL rfl ?_
  refine zl_nil ?_
  refine zk_seq ?_
  iterate 2 (refine zc_seq ?_)
  refine zc_region ?_
  iterate 2 (refine zl_pureL rfl ?_)
  refine zl_call (by first | exact want_none | exact want_L rfl) rfl (by decide) rfl (is_calls h n) ?_
  rintro _ u ⟨rfl, hu⟩
  obtain rfl := hu.symm
  refine ⟨_, rfl, ?_⟩
  unfold upOf
  by_cases h0 : isN N n
  · rw [decide_eq_true h0, if_pos h0]
    obtain ⟨i, rfl⟩ := Int.eq_ofNat_of_zero_le h0.1
    have hi : i < N.length := by have := h0.2; omega
    obtain ⟨b, o, c, hv, hp⟩ := h.ptr i hi
    subst hv
    have hb := h.blk
    have hn := (h.at_ i hi).1
    refine zl_pureL rfl ?_
    refine zl_nil ?_
    refine zk_seq ?_
    refine zc_false rfl ?_
    refine zc_skip ?_
    refine zk_seq ?_
    refine zc_seq ?_
    refine zc_region ?_
    iterate 2 (refine zl_pureL rfl ?_)
    refine z_fa want_none (by decide) rfl ?_
    refine z_loadB want_none (by decide) rfl (by assumption) (by rfl) ?_
    refine zl_pureL rfl ?_
    refine z_ia want_none (by decide) rfl rfl (by omega) (by omega) ?_
    refine z_load1 (by first | exact want_none | exact want_L rfl) (by decide) rfl (cell_at hp (by omega)) ?_
    refine zl_pureL rfl ?_
    refine z_fa want_none (by decide) rfl ?_
    refine z_loadB want_none (by decide) rfl (by assumption) (by rfl) ?_
    refine zl_pureL rfl ?_
    refine zl_nil ?_
    refine zk_seq ?_
    refine zc_ret ?_
    exact zk_ret1 (.inr rfl) rfl rfl ⟨rfl, rfl⟩
  · rw [decide_eq_false h0, if_neg h0]
    refine zl_pureL rfl ?_
    refine zl_nil ?_
    refine zk_seq ?_
    refine zc_true rfl ?_
    refine zc_seq ?_
    refine zc_region ?_
    refine zl_pureL rfl ?_
    refine zl_nil ?_
    refine zk_seq ?_
    refine zc_ret ?_
    refine zk_ret_then ?_
    exact zk_ret1 (.inr rfl) rfl rfl ⟨rfl, rfl⟩
/-- a slice of numbers that is told -/
def Ints (w : World) (B : Nat) (v : Value) (l : List Nat) : Prop := Own w 3 1 v l.length (intC l) ∧ NewS B v
theorem Ints.no {w w' : World} {B : Nat} {v : Value} {l : List Nat} (h : Ints w B v l) (hc : Chg w w' No) : Ints w' B v l := ⟨h.1.no hc, h.2⟩
theorem Ints.form {w : World} {B : Nat} {v : Value} {l : List Nat} (h : Ints w B v l) : ∃ A c, v = .slice A l.length c ∧ l.length ≤ c := h.1.rd.form
end Go.Proofs.Yteeibieaapiomaa.D
