import Derived.Test.YtaagolhokejflaaMTape
import Derived.Test.YtaagolhokejflaaMFirst
/- MarksWalls: the walk. -/
namespace Go.Proofs.Ytaagolhokejflaa.M
open Go Go.Z Go.Proofs
set_option linter.unusedVariables false
/-! what a push does behind the last wall -/
theorem beginN_wall (M : List Mark) (p : Nat) (hw : (M.getD p Mark.z).node < 0) : ∀ n, p < n → n ≤ M.length → (∀ q, p < q → q < n → 0 ≤ (M.getD q Mark.z).node) → beginN M n = p + 1
  | 0, h, _, _ => by omega
  | n + 1, h, hn, hq => by
    unfold beginN
    by_cases hp : p = n
    · subst hp; rw [if_neg (by omega)]
    · rw [if_pos (hq n (by omega) (by omega))]
      exact beginN_wall M p hw n (by omega) (by omega) (fun q h1 h2 => hq q h1 (by omega))
theorem getD_app {α : Type} (d : α) (P R : List α) (q : Nat) (hq : P.length ≤ q) : (P ++ R).getD q d = R.getD (q - P.length) d := by
  rw [List.getD_eq_getElem?_getD, List.getElem?_append_right hq, List.getD_eq_getElem?_getD]
theorem beginN_app (L R : List Mark) (h : ∀ m ∈ R, 0 ≤ m.node) : beginN (L ++ [Mark.wall] ++ R) (L ++ [Mark.wall] ++ R).length = (L ++ [Mark.wall]).length := by
  have hl : (L ++ [Mark.wall]).length = L.length + 1 := by simp
  rw [beginN_wall _ L.length ?_ _ (by simp) (Nat.le_refl _) ?_, hl]
  · rw [List.append_assoc, getD_app _ _ _ _ (Nat.le_refl _), Nat.sub_self]
    show (-1 : Int) < 0; decide
  · intro q h1 h2
    rw [getD_app _ _ _ _ (by omega)]
    refine h _ (getD_mem ?_)
    rw [List.length_append] at h2
    omega
theorem firstF_ge (L : List Mark) (x : Mark) : ∀ (f k : Nat), f = L.length - k → k ≤ L.length → 0 < manyF L x k → (k : Int) ≤ firstF L x k f
  | 0, k, hf, hk, hm => by have := manyF_le L x k; omega
  | f + 1, k, hf, hk, hm => by
    unfold firstF
    split
    · exact Int.le_refl _
    · rename_i hn
      have := firstF_ge L x f (k + 1) (by omega) (by omega) (by
        unfold manyF at hm ⊢
        rw [drop_cons Mark.z L k (by omega), List.filter_cons, if_neg hn] at hm
        exact hm)
      omega
theorem dropM_app (P R : List Mark) (j : Nat) (hj : P.length ≤ j) : dropM (P ++ R) j = P ++ dropM R (j - P.length) := by
  unfold dropM
  rw [List.take_append, List.take_of_length_le hj, List.drop_append, List.drop_eq_nil_of_le (by omega), List.nil_append, List.append_assoc, show j + 1 - P.length = j - P.length + 1 by omega]
theorem dropM_mem {R : List Mark} {j : Nat} {m : Mark} (h : m ∈ dropM R j) : m ∈ R := by
  unfold dropM at h
  rcases List.mem_append.1 h with h | h
  · exact List.mem_of_mem_take h
  · exact List.mem_of_mem_drop h
theorem push_app (P R : List Mark) (x : Mark) (hb : beginN (P ++ R) (P ++ R).length = P.length) : ∃ R', pushM (P ++ R) x = P ++ R' ∧ ∀ m ∈ R', m ∈ R ∨ m = x := by
  unfold pushM
  rw [hb]
  split
  · rename_i h3
    have hge := firstF_ge (P ++ R) x _ P.length rfl (by simp) (by omega)
    rw [dropM_app P R _ (by omega)]
    exact ⟨_, List.append_assoc _ _ _, fun m hm => by
      rcases List.mem_append.1 hm with h | h
      · exact .inl (dropM_mem h)
      · exact .inr (by simpa using h)⟩
  · exact ⟨R ++ [x], List.append_assoc _ _ _, fun m hm => by
      rcases List.mem_append.1 hm with h | h
      · exact .inl h
      · exact .inr (by simpa using h)⟩
theorem clear_app (L R : List Mark) (h : ∀ m ∈ R, 0 ≤ m.node) : clearN (L ++ [Mark.wall] ++ R) = L := by
  unfold clearN
  rw [beginN_app L R h]
  simp
theorem find_wall (L : List Mark) (nm : ByteArray) : findN (L ++ [Mark.wall]) nm (L ++ [Mark.wall]).length = -1 := by
  rw [show (L ++ [Mark.wall]).length = L.length + 1 by simp]
  unfold findN
  rw [getD_app _ _ _ _ (Nat.le_refl _), Nat.sub_self, if_neg]
  show ¬ (0 : Int) ≤ -1; decide
theorem Few.wall {L : List Mark} (h : Few L) : Few (L ++ [Mark.wall]) := fun m hm => by
  rcases List.mem_append.1 hm with h1 | h1
  · exact h m h1
  · simp only [List.mem_singleton] at h1; subst h1; exact Nat.zero_le _
/-- what calls on a list, and others, have written since w -/
structure WrB (w w' : World) (g : Nat) (v v' : Value) (X : Nat → Prop) : Prop where
  chg : Chg w w' (fun k => foot g v k ∨ X k)
  row : v'.ownBlock = v.ownBlock ∨ ∃ k, v'.ownBlock = some k ∧ w.heap.size ≤ k
theorem WrB.refl (w : World) (g : Nat) (v : Value) (X : Nat → Prop) : WrB w w g v v X := ⟨Chg.refl _ _, .inl rfl⟩
theorem WrB.wr {w w1 w2 : World} {g : Nat} {v v1 v2 : Value} {X : Nat → Prop} (h : WrB w w1 g v v1 X) (k : Wr w1 w2 g v1 v2) : WrB w w2 g v v2 X := by
  refine ⟨h.chg.trans k.chg (fun i hi hf => ?_), ?_⟩
  · rcases hf with rfl | hk
    · exact .inl (.inl rfl)
    · rcases h.row with h1 | ⟨j, h1, h2⟩
      · exact .inl (.inr (h1 ▸ hk))
      · rw [hk] at h1; cases h1; omega
  · rcases k.row with h1 | ⟨j, h1, h2⟩
    · rw [h1]; exact h.row
    · exact .inr ⟨j, h1, Nat.le_trans h.chg.size h2⟩
theorem WrB.tape {w w1 w2 : World} {g : Nat} {v v1 : Value} {X S : Nat → Prop} (h : WrB w w1 g v v1 X) (hc : Chg w1 w2 S) (hS : ∀ k, S k → X k) : WrB w w2 g v v1 X := ⟨h.chg.trans hc (fun i _ hs => .inr (hS i hs)), h.row⟩
set_option maxHeartbeats 32000000 in
theorem MarksWalls_walk (a1 : Option Addr) (n1 c1 : Nat) (z1 : List Int) (a2 : Option Addr) (n2 c2 : Nat) (z2 : List Int) (w : World) (hr1 : IsRow .i64 w a1 n1 c1 z1) (hr2 : IsRow .i64 w a2 n2 c2 z2) :
    Calls Try.prog 6 #[.slice a1 n1 c1, .slice a2 n2 c2] w fun e w' => e = .returned (.bool true) ∧ RowKit.Below w.heap.size w w' := by
  show Calls Try.prog 6 [Value.slice a1 n1 c1, .slice a2 n2 c2].toArray w _
  refine calls_zc (n := 79) (f := 6) (fn := Try.f6) Try.func6 rfl rfl (by simp) ?_
  refine zc_seq ?_
  refine zc_region ?_
  refine zl_pureL rfl ?_
  refine zl_nil ?_
  refine zk_seq ?_
  iterate 2 (refine zc_seq ?_)
  refine zc_region ?_
  refine zl_call (by first | exact want_none | exact want_L rfl) rfl (by decide) rfl known_calls ?_
  rintro _ w1 ⟨rfl, hC1⟩
  refine ⟨_, rfl, ?_⟩
  refine zl_pureL rfl ?_
  refine zl_nil ?_
  refine zk_seq ?_
  refine zc_false rfl ?_
  refine zc_skip ?_
  refine zk_seq ?_
  refine zc_seq ?_
  refine zc_region ?_
  refine zl_call (by first | exact want_none | exact want_L rfl) rfl (by decide) rfl new_calls ?_
  rintro _ w2 ⟨g, rfl, hI, hC2, hge⟩
  refine ⟨_, rfl, ?_⟩
  have hF : Fr w w2 62 g (.slice none 0 0) [] := ⟨hI, by have := hC1.size; omega, (fun k hk => by cases hk), hC1.no hC2⟩
  refine zl_pureL rfl ?_
  refine zl_nil ?_
  refine zk_seq ?_
  iterate 2 (refine zc_seq ?_)
  refine zc_region ?_
  refine zl_pureL rfl ?_
  refine z_eqPN (by first | exact want_none | exact want_L rfl) (by decide) rfl rfl ?_
  refine zl_nil ?_
  refine zk_seq ?_
  refine zc_false rfl ?_
  refine zc_skip ?_
  refine zk_seq ?_
  refine zc_seq ?_
  refine zc_region ?_
  refine zl_pureL rfl ?_
  refine z_buildE #[.slice a1 n1 c1, .int .i64 0] (by first | exact want_none | exact want_L rfl) (by decide) rfl (by kernel_rfl) ?_
  refine z_box (by first | exact want_none | exact want_L rfl) (by decide) rfl (fun w3 bt hN3 => ?_)
  have ht3 : Blk w3 bt 38 [.slice a1 n1 c1, .int .i64 ((0 : Nat) : Int)] := hN3.blk
  refine zl_pureL rfl ?_
  refine z_buildE #[.slice a2 n2 c2, .int .i64 0] (by first | exact want_none | exact want_L rfl) (by decide) rfl (by kernel_rfl) ?_
  refine z_box (by first | exact want_none | exact want_L rfl) (by decide) rfl (fun w4 bu hN4 => ?_)
  have hu4 : Blk w4 bu 38 [.slice a2 n2 c2, .int .i64 ((0 : Nat) : Int)] := hN4.blk
  have ht4 := ht3.no hN4.chg
  have hF4 := (hF.no hN3.chg).no hN4.chg
  have hbt : w.heap.size ≤ bt := hN3.ge (hC1.no hC2)
  have hbu : w.heap.size ≤ bu := hN4.ge ((hC1.no hC2).no hN3.chg)
  have hbtu : bt ≠ bu := by have := hN3.at_; have := hN4.at_; have := hN3.size; omega
  iterate 2 (refine zl_pureL rfl ?_)
  refine zl_nil ?_
  refine zk_seq ?_
  iterate 2 (refine zc_seq ?_)
  refine zc_region ?_
  refine zl_pureL rfl ?_
  refine zl_nil ?_
  refine zk_seq ?_
  refine zc_block ?_
  refine zc_midB (fun u => ∃ v L, Fr w u 62 g v L ∧ L.length ≤ 20 ∧ Few L ∧ Blk u bu 38 [.slice a2 n2 c2, .int .i64 ((0 : Nat) : Int)]) [(5, .pointer (some ⟨g, 0, none⟩)), (7, .pointer (some ⟨bu, 0, none⟩))] ?_ ?_
  · refine zc_loopW (ι := Nat × Value × List Mark × Nat) (fun k u => [(5, .pointer (some ⟨g, 0, none⟩)), (6, .pointer (some ⟨bt, 0, none⟩)), (7, .pointer (some ⟨bu, 0, none⟩)), (8, .int .i64 k.1)])
      (fun k u => k.1 ≤ 20 ∧ Fr w u 62 g k.2.1 k.2.2.1 ∧ k.2.2.1.length ≤ k.1 ∧ Few k.2.2.1 ∧ Blk u bt 38 [.slice a1 n1 c1, .int .i64 (k.2.2.2 : Nat)] ∧ k.2.2.2 ≤ n1 ∧ Blk u bu 38 [.slice a2 n2 c2, .int .i64 ((0 : Nat) : Int)]) (fun k u => 20 - k.1) (0, .slice none 0 0, [], 0)
      ⟨Nat.zero_le _, hF4, Nat.le_refl _, (fun m hm => by cases hm), ht4, Nat.zero_le _, hu4⟩ ?_ ?_
    · exact ⟨rfl, rfl, rfl, rfl, trivial⟩
    rintro ⟨i, v, L, at1⟩ u ⟨hi, hF, hLi, hLf, ht, hat, hu⟩
    dsimp only at hi hF hLi hLf ht hat
    by_cases h20 : i < 20
    · iterate 2 (refine zc_seq ?_)
      refine zc_region ?_
      refine zl_pureL rfl ?_
      refine z_cmpB (r := true) want_none (by decide) rfl rfl rfl (iff_of_true rfl (by omega)) ?_
      iterate 2 (refine zl_pureL rfl ?_)
      refine zl_call (by first | exact want_none | exact want_L rfl) rfl (by decide) rfl (more_calls ht) ?_
      rintro _ u1 ⟨rfl, hC1'⟩
      refine ⟨_, rfl, ?_⟩
      have hF1 := hF.no hC1'
      by_cases hm : at1 < n1
      · rw [decide_eq_true hm]
        refine zl_pureL rfl ?_
        refine zl_nil ?_
        refine zk_seq ?_
        refine zc_true rfl ?_
        refine zc_skip ?_
        refine zk_seq ?_
        refine zc_seq ?_
        refine zc_block ?_
        refine zc_region ?_
        iterate 3 (refine zl_pureL rfl ?_)
        refine zl_call (by first | exact want_none | exact want_L rfl) rfl (by decide) rfl (next_calls 5 (by decide) (by decide) (ht.no hC1') hr1 hF1.chg hbt hat) ?_
        rintro _ u2 ⟨k2, at2, hk2, rfl, ht2, hat2, hC2'⟩
        refine ⟨_, rfl, ?_⟩
        have hF2 := hF1.other (ht.no hC1') hC2' (by decide) (by decide) (by decide) hbt
        have hu2 := (hu.no hC1').chg hC2' hbtu.symm
        refine zl_call (by first | exact want_none | exact want_L rfl) rfl (by decide) rfl (name_calls k2) ?_
        rintro _ u3 ⟨rfl, hC3⟩
        refine ⟨_, rfl, ?_⟩
        have hF3 := hF2.no hC3
        have ht3 := ht2.no hC3
        refine zl_pureL rfl ?_
        refine zl_call (by first | exact want_none | exact want_L rfl) rfl (by decide) rfl (next_calls 7 (by decide) (by decide) ht3 hr1 hF3.chg hbt hat2) ?_
        rintro _ u4 ⟨k4, at4, hk4, rfl, ht4, hat4, hC4⟩
        refine ⟨_, rfl, ?_⟩
        have hF4 := hF3.other ht3 hC4 (by decide) (by decide) (by decide) hbt
        have hu4 := (hu2.no hC3).chg hC4 hbtu.symm
        refine zl_call (by first | exact want_none | exact want_L rfl) rfl (by decide) rfl (attrs_calls k4) ?_
        rintro _ u5 ⟨va, rfl, ha5, hC5⟩
        refine ⟨_, rfl, ?_⟩
        have hF5 := hF4.no hC5
        refine z_buildE #[.int .i64 i, .string (nameN k2), va] (by first | exact want_none | exact want_L rfl) (by decide) rfl (by obtain ⟨A, c, rfl, _⟩ := ha5.form; kernel_rfl) ?_
        have hal := attrsN_len k4
        refine zl_call (by first | exact want_none | exact want_L rfl) rfl (by decide) rfl (push_calls hF5.is (by omega) ha5 (by omega) hLf) ?_
        rintro _ u6 ⟨rfl, v6, hI6, hW6⟩
        refine ⟨_, rfl, ?_⟩
        have hF6 := hF5.wr hI6 hW6
        have hpl := pushM_len L ⟨i, nameN k2, attrsN k4⟩
        refine zl_nil ?_
        refine zk_norm_block ?_
        refine zk_seq ?_
        refine zc_region ?_
        refine zl_pureL rfl ?_
        refine z_add want_none (by decide) rfl rfl (by omega) (by omega) ?_
        refine zl_pureL rfl ?_
        refine zl_nil ?_
        exact zk_loopW (i + 1, v6, pushM L ⟨i, nameN k2, attrsN k4⟩, at4) ⟨by omega, hF6, by dsimp only; omega, hLf.push (by show (attrsN k4).length ≤ _; omega), hW6.other hF5.is (ht4.no hC5) (by decide) (by decide), hat4, hW6.other hF5.is (hu4.no hC5) (by decide) (by decide)⟩ (by simp; omega) ⟨rfl, rfl, rfl, get_int rfl (by simp), trivial⟩
      · rw [decide_eq_false hm]
        refine zl_pureL rfl ?_
        refine zl_nil ?_
        refine zk_seq ?_
        refine zc_false rfl ?_
        refine zc_exit ?_
        iterate 2 (refine zk_exit_then ?_)
        refine zk_exit_block ?_
        refine zk_mid ⟨v, L, hF1, by omega, hLf, hu.no hC1'⟩ ⟨rfl, rfl, trivial⟩
    · iterate 2 (refine zc_seq ?_)
      refine zc_region ?_
      refine zl_pureL rfl ?_
      refine z_cmpB (r := false) want_none (by decide) rfl rfl rfl (iff_of_false Bool.false_ne_true (by omega)) ?_
      iterate 2 (refine zl_pureL rfl ?_)
      refine zl_skip rfl ?_
      refine zl_pureL rfl ?_
      refine zl_nil ?_
      refine zk_seq ?_
      refine zc_false rfl ?_
      refine zc_exit ?_
      iterate 2 (refine zk_exit_then ?_)
      refine zk_exit_block ?_
      refine zk_mid ⟨v, L, hF, by omega, hLf, hu⟩ ⟨rfl, rfl, trivial⟩
  rintro u ⟨v', L, hF, hL20, hLf, hu⟩
  refine zc_seq ?_
  refine zc_region ?_
  refine zl_pureL rfl ?_
  refine zl_call (by first | exact want_none | exact want_L rfl) rfl (by decide) rfl (all_calls hF.is (by omega) hLf) ?_
  rintro _ u1 ⟨vo, rfl, hT, hC1'⟩
  refine ⟨_, rfl, ?_⟩
  have hltF : ∀ k, foot g v' k → k < u.heap.size := hF.is.lt
  have hltu : bu < u.heap.size := hu.lt
  have hF1 := hF.no hC1'
  refine zl_pureL rfl ?_
  refine zl_nil ?_
  refine zk_seq ?_
  refine zc_seq ?_
  refine zc_region ?_
  refine zl_pureL rfl ?_
  refine zl_call (by first | exact want_none | exact want_L rfl) rfl (by decide) rfl (wall_calls hF1.is (by omega)) ?_
  rintro _ u2 ⟨rfl, v2, hI2, hW2⟩
  refine ⟨_, rfl, ?_⟩
  have hF2 := hF1.wr hI2 hW2
  have hu2 := hW2.other hF1.is (hu.no hC1') (by decide) (by decide)
  have hB2 : WrB u1 u2 g v' v2 (· = bu) := (WrB.refl _ _ _ _).wr hW2
  have hL2 : (L ++ [Mark.wall]).length ≤ 21 := by simp; omega
  refine zl_nil ?_
  refine zk_seq ?_
  iterate 2 (refine zc_seq ?_)
  refine zc_region ?_
  refine zl_pureL rfl ?_
  refine zl_nil ?_
  refine zk_seq ?_
  refine zc_block ?_
  refine zc_loopW (ι := Nat) (fun k u => [(5, .pointer (some ⟨g, 0, none⟩)), (7, .pointer (some ⟨bu, 0, none⟩)), (9, vo), (10, .int .i64 k)])
    (fun k u => k ≤ 5 ∧ Chg u2 u No) (fun k u => 5 - k) 0 ⟨Nat.zero_le _, Chg.refl _ _⟩ ?_ ?_
  · exact ⟨rfl, rfl, rfl, rfl, trivial⟩
  rintro k u3 ⟨hk, hC3⟩
  by_cases h5 : k < 5
  · iterate 2 (refine zc_seq ?_)
    refine zc_region ?_
    refine zl_pureL rfl ?_
    refine z_cmpB (r := true) want_none (by decide) rfl rfl rfl (iff_of_true rfl (by omega)) ?_
    refine zl_nil ?_
    refine zk_seq ?_
    refine zc_true rfl ?_
    refine zc_skip ?_
    refine zk_seq ?_
    refine zc_seq ?_
    refine zc_block ?_
    refine zc_seq ?_
    refine zc_region ?_
    iterate 2 (refine zl_pureL rfl ?_)
    refine zl_call (by first | exact want_none | exact want_L rfl) rfl (by decide) rfl (name_calls k) ?_
    rintro _ u4 ⟨rfl, hC4⟩
    refine ⟨_, rfl, ?_⟩
    refine zl_call (by first | exact want_none | exact want_L rfl) rfl (by decide) rfl (find_calls (nameN k) ((hF2.no hC3).no hC4).is (by omega)) ?_
    rintro _ u5 ⟨rfl, rfl⟩
    refine ⟨_, rfl, ?_⟩
    rw [find_wall]
    refine z_cmpB (r := false) want_none (by decide) rfl rfl rfl (iff_of_false Bool.false_ne_true (by omega)) ?_
    refine zl_nil ?_
    refine zk_seq ?_
    refine zc_false rfl ?_
    refine zc_skip ?_
    refine zk_norm_block ?_
    refine zk_seq ?_
    refine zc_region ?_
    refine zl_pureL rfl ?_
    refine z_add want_none (by decide) rfl rfl (by omega) (by omega) ?_
    refine zl_pureL rfl ?_
    refine zl_nil ?_
    exact zk_loopW (k + 1) ⟨by omega, hC3.no hC4⟩ (by omega) ⟨rfl, rfl, rfl, get_int rfl (by simp), trivial⟩
  obtain rfl : k = 5 := by omega
  have hF3 := hF2.no hC3
  have hu3 := hu2.no hC3
  have hB3 := hB2.tape hC3 (fun _ h => h.elim)
  iterate 2 (refine zc_seq ?_)
  refine zc_region ?_
  refine zl_pureL rfl ?_
  refine z_cmpB (r := false) want_none (by decide) rfl rfl rfl (iff_of_false Bool.false_ne_true (by omega)) ?_
  refine zl_nil ?_
  refine zk_seq ?_
  refine zc_false rfl ?_
  refine zc_exit ?_
  iterate 2 (refine zk_exit_then ?_)
  refine zk_exit_block ?_
  refine zk_seq ?_
  iterate 2 (refine zc_seq ?_)
  refine zc_region ?_
  refine zl_pureL rfl ?_
  refine zl_nil ?_
  refine zk_seq ?_
  refine zc_block ?_
  refine zc_midB (fun u' => ∃ v R, Fr w u' 62 g v (L ++ [Mark.wall] ++ R) ∧ (L ++ [Mark.wall] ++ R).length ≤ 41 ∧ Few (L ++ [Mark.wall] ++ R) ∧ (∀ m ∈ R, 0 ≤ m.node) ∧ WrB u1 u' g v' v (· = bu)) [(5, .pointer (some ⟨g, 0, none⟩)), (9, vo)] ?_ ?_
  · refine zc_loopW (ι := Nat × Value × List Mark × Nat) (fun k u => [(5, .pointer (some ⟨g, 0, none⟩)), (7, .pointer (some ⟨bu, 0, none⟩)), (9, vo), (11, .int .i64 k.1)])
      (fun k u' => k.1 ≤ 20 ∧ Fr w u' 62 g k.2.1 (L ++ [Mark.wall] ++ k.2.2.1) ∧ (L ++ [Mark.wall] ++ k.2.2.1).length ≤ 21 + k.1 ∧ Few (L ++ [Mark.wall] ++ k.2.2.1) ∧ (∀ m ∈ k.2.2.1, 0 ≤ m.node) ∧ WrB u1 u' g v' k.2.1 (· = bu) ∧ Blk u' bu 38 [.slice a2 n2 c2, .int .i64 (k.2.2.2 : Nat)] ∧ k.2.2.2 ≤ n2) (fun k u => 20 - k.1) (0, v2, [], 0)
      ⟨Nat.zero_le _, by simpa using hF3, by simpa using hL2, by simpa using hLf.wall, (fun m hm => by cases hm), hB3, hu3, Nat.zero_le _⟩ ?_ ?_
    · exact ⟨rfl, rfl, rfl, rfl, trivial⟩
    rintro ⟨i, v4, R, at1⟩ u4 ⟨hi, hF4, hR, hRf, hRn, hB4, hu4, hat⟩
    dsimp only at hi hF4 hR hRf hRn hB4 hu4 hat
    by_cases h20 : i < 20
    · iterate 2 (refine zc_seq ?_)
      refine zc_region ?_
      refine zl_pureL rfl ?_
      refine z_cmpB (r := true) want_none (by decide) rfl rfl rfl (iff_of_true rfl (by omega)) ?_
      iterate 2 (refine zl_pureL rfl ?_)
      refine zl_call (by first | exact want_none | exact want_L rfl) rfl (by decide) rfl (more_calls hu4) ?_
      rintro _ u5 ⟨rfl, hC5⟩
      refine ⟨_, rfl, ?_⟩
      have hF5 := hF4.no hC5
      have hu5 := hu4.no hC5
      have hB5 := hB4.tape hC5 (fun _ h => h.elim)
      by_cases hm : at1 < n2
      · rw [decide_eq_true hm]
        refine zl_pureL rfl ?_
        refine zl_nil ?_
        refine zk_seq ?_
        refine zc_true rfl ?_
        refine zc_skip ?_
        refine zk_seq ?_
        refine zc_seq ?_
        refine zc_block ?_
        refine zc_region ?_
        iterate 2 (refine zl_pureL rfl ?_)
        refine z_add want_none (by decide) rfl rfl (by omega) (by omega) ?_
        refine zl_pureL rfl ?_
        refine zl_call (by first | exact want_none | exact want_L rfl) rfl (by decide) rfl (next_calls 5 (by decide) (by decide) hu5 hr2 hF5.chg hbu hat) ?_
        rintro _ u6 ⟨k2, at2, hk2, rfl, hu6, hat2, hC6⟩
        refine ⟨_, rfl, ?_⟩
        have hF6 := hF5.other hu5 hC6 (by decide) (by decide) (by decide) hbu
        have hB6 := hB5.tape hC6 (fun _ h => h)
        refine zl_call (by first | exact want_none | exact want_L rfl) rfl (by decide) rfl (name_calls k2) ?_
        rintro _ u7 ⟨rfl, hC7⟩
        refine ⟨_, rfl, ?_⟩
        have hF7 := hF6.no hC7
        have hu7 := hu6.no hC7
        have hB7 := hB6.tape hC7 (fun _ h => h.elim)
        refine zl_pureL rfl ?_
        refine zl_call (by first | exact want_none | exact want_L rfl) rfl (by decide) rfl (next_calls 7 (by decide) (by decide) hu7 hr2 hF7.chg hbu hat2) ?_
        rintro _ u8 ⟨k4, at4, hk4, rfl, hu8, hat4, hC8⟩
        refine ⟨_, rfl, ?_⟩
        have hF8 := hF7.other hu7 hC8 (by decide) (by decide) (by decide) hbu
        have hB8 := hB7.tape hC8 (fun _ h => h)
        refine zl_call (by first | exact want_none | exact want_L rfl) rfl (by decide) rfl (attrs_calls k4) ?_
        rintro _ u9 ⟨va, rfl, ha9, hC9⟩
        refine ⟨_, rfl, ?_⟩
        have hF9 := hF8.no hC9
        have hB9 := hB8.tape hC9 (fun _ h => h.elim)
        refine z_buildE #[.int .i64 (100 + i), .string (nameN k2), va] (by first | exact want_none | exact want_L rfl) (by decide) rfl (by obtain ⟨A, c, rfl, _⟩ := ha9.form; kernel_rfl) ?_
        have hal := attrsN_len k4
        refine zl_call (by first | exact want_none | exact want_L rfl) rfl (by decide) rfl (push_calls hF9.is (by omega) ha9 (by omega) hRf) ?_
        rintro _ u10 ⟨rfl, v10, hI10, hW10⟩
        refine ⟨_, rfl, ?_⟩
        have hF10 := hF9.wr hI10 hW10
        have hB10 := hB9.wr hW10
        have hpl := pushM_len (L ++ [Mark.wall] ++ R) ⟨100 + i, nameN k2, attrsN k4⟩
        have hpf := hRf.push (x := ⟨100 + i, nameN k2, attrsN k4⟩) (by show (attrsN k4).length ≤ _; omega)
        obtain ⟨R', hR', hRm⟩ := push_app (L ++ [Mark.wall]) R ⟨100 + i, nameN k2, attrsN k4⟩ (beginN_app L R hRn)
        rw [hR'] at hF10 hpl hpf
        refine zl_nil ?_
        refine zk_norm_block ?_
        refine zk_seq ?_
        refine zc_region ?_
        refine zl_pureL rfl ?_
        refine z_add want_none (by decide) rfl rfl (by omega) (by omega) ?_
        refine zl_pureL rfl ?_
        refine zl_nil ?_
        refine zk_loopW (i + 1, v10, R', at4) ⟨by omega, hF10, by dsimp only; omega, hpf, ?_, hB10, hW10.other hF9.is (hu8.no hC9) (by decide) (by decide), hat4⟩ (by simp; omega) ⟨rfl, rfl, rfl, get_int rfl (by simp), trivial⟩
        intro m hm'
        rcases hRm m hm' with h | rfl
        · exact hRn m h
        · show (0 : Int) ≤ 100 + i; omega
      · rw [decide_eq_false hm]
        refine zl_pureL rfl ?_
        refine zl_nil ?_
        refine zk_seq ?_
        refine zc_false rfl ?_
        refine zc_exit ?_
        iterate 2 (refine zk_exit_then ?_)
        refine zk_exit_block ?_
        refine zk_mid ⟨v4, R, hF5, by omega, hRf, hRn, hB5⟩ ⟨rfl, rfl, trivial⟩
    · iterate 2 (refine zc_seq ?_)
      refine zc_region ?_
      refine zl_pureL rfl ?_
      refine z_cmpB (r := false) want_none (by decide) rfl rfl rfl (iff_of_false Bool.false_ne_true (by omega)) ?_
      iterate 2 (refine zl_pureL rfl ?_)
      refine zl_skip rfl ?_
      refine zl_pureL rfl ?_
      refine zl_nil ?_
      refine zk_seq ?_
      refine zc_false rfl ?_
      refine zc_exit ?_
      iterate 2 (refine zk_exit_then ?_)
      refine zk_exit_block ?_
      refine zk_mid ⟨v4, R, hF4, by omega, hRf, hRn, hB4⟩ ⟨rfl, rfl, trivial⟩
  rintro u5 ⟨v5, R, hF5, hR, hRf, hRn, hB5⟩
  have hTB : ∀ k, foot g v' k ∨ k = bu → k < u.heap.size := fun k hk => by
    rcases hk with hk | rfl
    · exact hltF k hk
    · exact hltu
  have hT5 := hT.chg hB5.chg hTB
  refine zc_seq ?_
  refine zc_region ?_
  refine zl_pureL rfl ?_
  refine zl_call (by first | exact want_none | exact want_L rfl) rfl (by decide) rfl (clear_calls hF5.is (by omega)) ?_
  rintro _ u6 ⟨rfl, v6, hI6, hW6⟩
  refine ⟨_, rfl, ?_⟩
  rw [clear_app L R hRn] at hI6
  have hF6 := hF5.wr hI6 hW6
  have hT6 := hT.chg (hB5.wr hW6).chg hTB
  refine zl_nil ?_
  refine zk_seq ?_
  refine zc_seq ?_
  refine zc_region ?_
  refine zl_pureL rfl ?_
  refine zl_call (by first | exact want_none | exact want_L rfl) rfl (by decide) rfl (all_calls hF6.is (by omega) hLf) ?_
  rintro _ u7 ⟨vq, rfl, hTq, hC7⟩
  refine ⟨_, rfl, ?_⟩
  refine zl_pureL rfl ?_
  refine zl_call (by first | exact want_none | exact want_L rfl) rfl (by decide) rfl (same7_calls hTq.ms (hT6.no hC7).ms (by omega) (by omega) hLf hLf) ?_
  rintro _ u8 ⟨r, rfl, hr, hC8⟩
  obtain rfl : r = true := hr.2 rfl
  refine ⟨_, rfl, ?_⟩
  refine zl_pureL rfl ?_
  refine zl_nil ?_
  refine zk_seq ?_
  refine zc_ret ?_
  exact zk_ret1 (.inr rfl) rfl rfl ⟨rfl, ((hF6.no hC7).no hC8).chg.below⟩
end Go.Proofs.Ytaagolhokejflaa.M
