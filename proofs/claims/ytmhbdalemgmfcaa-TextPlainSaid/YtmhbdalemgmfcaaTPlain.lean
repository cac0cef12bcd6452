import Derived.Test.YtmhbdalemgmfcaaTWords
/- Plain, Trim, as the program and as the document has it. -/
namespace Go.Proofs.Ytmhbdalemgmfcaa.T
open Go Go.Z Go.Proofs
set_option linter.unusedVariables false
def plainN (l : List UInt8) : List UInt8 := Lib.join (wordsN [] l) [32]
theorem take_ne {α : Type} {ss : List α} {k : Nat} (h0 : ¬ k = 0) (hk : k < ss.length) : ss.take k ≠ [] := fun h => by
  have := congrArg List.length h
  rw [List.length_take, List.length_nil] at this; omega
theorem join_snoc (sep x : List UInt8) : ∀ ss : List (List UInt8), ss ≠ [] → Lib.join (ss ++ [x]) sep = Lib.join ss sep ++ sep ++ x
  | [], h => absurd rfl h
  | y :: r, _ => by
    rw [List.cons_append, Lib.join_cons, Lib.join_cons]
    simp [Lib.joinTail]
theorem words_sum : ∀ (r cur : List UInt8), (Lib.join (wordsN cur r) [32]).length ≤ cur.length + r.length ∧ (wordsN cur r).length ≤ cur.length + r.length
  | [], cur => by
    unfold wordsN
    split
    · simp [Lib.join_nil]
    · rename_i h
      rw [Lib.join_one]
      have : 1 ≤ cur.length := by cases cur <;> simp_all
      simp; omega
  | c :: r, cur => by
    unfold wordsN
    have h0 := words_sum r []
    split
    · split
      · simp at h0 ⊢; omega
      · rename_i h
        have hc : 1 ≤ cur.length := by cases cur <;> simp_all
        rw [Lib.join_cons]
        have : (Lib.joinTail [32] (wordsN [] r)).length ≤ (Lib.join (wordsN [] r) [32]).length + 1 := by
          cases hw : wordsN [] r with
          | nil => simp [Lib.joinTail]
          | cons y q => rw [Lib.join_cons]; simp [Lib.joinTail] <;> omega
        simp at h0 ⊢; omega
    · have := words_sum r (cur ++ [c])
      simp at this ⊢; omega
set_option maxHeartbeats 2000000 in
theorem plain_calls {w : World} {l : List UInt8} (hl : l.length ≤ 100000) : Calls Try.prog 24 [.string (bs l)].toArray w fun e w' => e = .returned (.string (bs (plainN l))) ∧ Chg w w' No := by
  obtain ⟨hj, hwl⟩ := words_sum l []
  simp only [List.length_nil, Nat.zero_add] at hj hwl
  refine calls_zc (n := 6) (f := 24) (fn := Try.f24) Try.func24 rfl rfl (by simp) ?_
  refine zc_seq ?_
  refine zc_region ?_
  refine zl_pureL rfl ?_
  refine zl_nil ?_
  refine zk_seq ?_
  refine zc_seq ?_
  refine zc_region ?_
  refine zl_pureL rfl ?_
  refine zl_call (by first | exact want_none | exact want_L rfl) rfl (by decide) rfl (words_calls hl) ?_
  rintro _ w1 ⟨v, rfl, hO, hC⟩
  refine ⟨_, rfl, ?_⟩
  unfold plainN
  generalize wordsN [] l = ss at hO hj hwl ⊢
  have hr := hO.rd
  obtain ⟨A, c, rfl, hc⟩ := hr.form
  have key : Calls Try.prog 40 [.slice A ss.length c, .string ⟨#[32]⟩].toArray w1 fun e w' => e = .returned (.string (bs (Lib.join ss [32]))) ∧ Chg w1 w' No := by
    by_cases h0 : ss.length = 0
    · obtain rfl : ss = [] := List.eq_nil_of_length_eq_zero h0
      refine (Try.strings_Join_none A c ⟨#[32]⟩ w1).mono ?_
      rintro e w' ⟨rfl, rfl⟩
      exact ⟨rfl, Chg.refl _ _⟩
    · obtain ⟨b, o, c', hv, _, hcell⟩ := hr.some (by omega)
      cases hv
      obtain ⟨b', o', cells, hA, hb, _⟩ : ∃ b' o' cells, (some ⟨b, o, none⟩ : Option Addr) = some ⟨b', o', none⟩ ∧ Blk w1 b' 9 cells ∧ True := by
        obtain ⟨_, _, A', c', hv', _, h5⟩ := hr
        cases hv'
        obtain ⟨b', o', cells, h6, h7, _⟩ := h5 (by omega)
        exact ⟨b', o', cells, h6, h7, trivial⟩
      cases hA
      have hm : (ss.map bs).map (·.data.toList) = ss := by
        rw [List.map_map]; conv => rhs; rw [← List.map_id ss]
        rfl
      have hlen : (ss.map bs).length = ss.length := by simp
      have := Try.strings_Join b o c (ss.map bs) ⟨#[32]⟩ w1 (fun j x hx => by
        have hjl : j < ss.length := by have := (List.getElem?_eq_some_iff.1 hx).1; simpa using this
        rw [hcell j _ (cellsS_at ss j hjl)]
        rw [List.getElem?_map, List.getElem?_eq_getElem hjl] at hx
        cases hx
        rw [List.getD_eq_getElem?_getD, List.getElem?_eq_getElem hjl]; rfl) hb.lt (by rw [hlen]; omega) (by rw [hlen]; exact hc) (by rw [hm]; show (Lib.join ss [32]).length ≤ _; omega)
      rw [hm, hlen] at this
      refine this.mono ?_
      rintro e w' ⟨rfl, h2⟩
      exact ⟨rfl, Chg.of_below h2⟩
  skip
  refine zl_call (by first | exact want_none | exact want_L rfl) rfl (by decide) rfl key ?_
  rintro _ w2 ⟨rfl, hC2⟩
  refine ⟨_, rfl, ?_⟩
  refine zl_pureL rfl ?_
  refine zl_nil ?_
  refine zk_seq ?_
  refine zc_ret ?_
  exact zk_ret1 (.inr rfl) rfl rfl ⟨rfl, hC.no hC2⟩
set_option maxHeartbeats 2000000 in
theorem plainR_calls {w : World} {l : List UInt8} (hl : l.length ≤ 100000) : Calls Try.prog 25 [.string (bs l)].toArray w fun e w' => e = .returned (.string (bs (plainN l))) ∧ Chg w w' No := by
  obtain ⟨hj, hwl⟩ := words_sum l []
  simp only [List.length_nil, Nat.zero_add] at hj hwl
  refine calls_zc (n := 25) (f := 25) (fn := Try.f25) Try.func25 rfl rfl (by simp) ?_
  refine zc_seq ?_
  refine zc_region ?_
  refine zl_pureL rfl ?_
  refine zl_nil ?_
  refine zk_seq ?_
  refine zc_seq ?_
  refine zc_region ?_
  refine zl_pureL rfl ?_
  refine zl_call (by first | exact want_none | exact want_L rfl) rfl (by decide) rfl (wordsR_calls hl) ?_
  rintro _ w1 ⟨v, rfl, hO, hC⟩
  refine ⟨_, rfl, ?_⟩
  unfold plainN
  generalize wordsN [] l = ss at hO hj hwl ⊢
  have hr := hO.rd
  obtain ⟨A, c, rfl, hc⟩ := hr.form
  have hle : ∀ k, k < ss.length → (Lib.join (ss.take k) [32]).length + 1 + (ss.getD k []).length ≤ 100001 := fun k hk => by
    have h1 : (Lib.join (ss.take (k + 1)) [32]).length ≤ (Lib.join ss [32]).length := by
      conv => rhs; rw [← List.take_append_drop (k + 1) ss]
      cases hs : ss.take (k + 1) with
      | nil => simp [Lib.join_nil]
      | cons y r => rw [List.cons_append, Lib.join_cons, Lib.join_cons]; simp [Lib.joinTail]
    rw [take_getD [] hk] at h1
    by_cases h0 : k = 0
    · subst h0; simp [Lib.join_nil, Lib.join_one] at h1 ⊢; omega
    · rw [join_snoc _ _ _ (take_ne h0 (by omega))] at h1
      simp at h1 ⊢; omega
  refine zl_pureL rfl ?_
  refine zl_nil ?_
  refine zk_seq ?_
  refine zc_seq ?_
  refine zc_region ?_
  refine zl_pureL rfl ?_
  refine zl_nil ?_
  refine zk_seq ?_
  iterate 2 (refine zc_seq ?_)
  refine zc_region ?_
  refine zl_pureL rfl ?_
  refine zl_nil ?_
  refine zk_seq ?_
  refine zc_block ?_
  refine zc_loopW (ι := Nat) (fun k u => [(3, .slice A ss.length c), (4, .string (bs (Lib.join (ss.take k) [32]))), (5, .int .i64 k)]) (fun k u => k ≤ ss.length ∧ u = w1) (fun k u => ss.length - k) 0 ⟨Nat.zero_le _, rfl⟩ ?_ ?_
  · exact ⟨rfl, rfl, rfl, trivial⟩
  rintro k u ⟨hk, rfl⟩
  by_cases hlt : k < ss.length
  · obtain ⟨b, o, c', hv, _, g0⟩ := hr.some (by omega)
    have e0 := g0 _ _ (cellsS_at ss k hlt)
    cases hv
    have hlk := hle k hlt
    by_cases h0 : k = 0
    · subst h0
      have e0' : u.cell? ⟨b, o, none⟩ = some (.string (bs (ss.getD 0 []))) := by simpa using e0
      iterate 2 (refine zc_seq ?_)
      refine zc_region ?_
      iterate 2 (refine zl_pureL rfl ?_)
      refine z_len want_none (by decide) rfl ?_
      refine z_cmpB (r := true) want_none (by decide) rfl rfl rfl (iff_of_true rfl (by omega)) ?_
      refine zl_nil ?_
      refine zk_seq ?_
      refine zc_true rfl ?_
      refine zc_skip ?_
      refine zk_seq ?_
      refine zc_seq ?_
      refine zc_block ?_
      iterate 2 (refine zc_seq ?_)
      refine zc_region ?_
      refine zl_pureL rfl ?_
      refine z_cmpB (r := false) want_none (by decide) rfl rfl rfl (iff_of_false Bool.false_ne_true (by omega)) ?_
      refine zl_nil ?_
      refine zk_seq ?_
      refine zc_false rfl ?_
      refine zc_skip ?_
      refine zk_seq ?_
      refine zc_region ?_
      iterate 3 (refine zl_pureL rfl ?_)
      refine z_ia want_none (by decide) rfl rfl (by omega) (by omega) ?_
      refine z_load1 want_none (by decide) rfl (by assumption) ?_
      refine z_catL want_none (by decide) rfl rfl (by omega) ?_
      refine zl_pureL rfl ?_
      refine zl_nil ?_
      refine zk_norm_block ?_
      refine zk_seq ?_
      refine zc_region ?_
      refine zl_pureL rfl ?_
      refine z_add want_none (by decide) rfl rfl (by omega) (by omega) ?_
      refine zl_pureL rfl ?_
      refine zl_nil ?_
      try refine z_load1 (by first | exact want_none | exact want_L rfl) (by decide) rfl (cell_at e0' (by simp)) ?_
      have ej : (Lib.join (ss.take 0) [32]) = [] := rfl
      rw [ej]
      skip
      refine zk_loopW 1 ⟨by omega, rfl⟩ (by omega) ⟨rfl, get_eq rfl ?_, rfl, trivial⟩
      rw [show ss.take 1 = [ss.getD 0 []] from take_getD [] hlt, Lib.join_one]; rfl
    · iterate 2 (refine zc_seq ?_)
      refine zc_region ?_
      iterate 2 (refine zl_pureL rfl ?_)
      refine z_len want_none (by decide) rfl ?_
      refine z_cmpB (r := true) want_none (by decide) rfl rfl rfl (iff_of_true rfl (by omega)) ?_
      refine zl_nil ?_
      refine zk_seq ?_
      refine zc_true rfl ?_
      refine zc_skip ?_
      refine zk_seq ?_
      refine zc_seq ?_
      refine zc_block ?_
      iterate 2 (refine zc_seq ?_)
      refine zc_region ?_
      refine zl_pureL rfl ?_
      refine z_cmpB (r := true) want_none (by decide) rfl rfl rfl (iff_of_true rfl (by omega)) ?_
      refine zl_nil ?_
      refine zk_seq ?_
      refine zc_true rfl ?_
      refine zc_region ?_
      refine zl_pureL rfl ?_
      refine z_catL (r := [32]) (by first | exact want_none | exact want_L rfl) (by decide) rfl rfl (by simp; omega) ?_
      refine zl_pureL rfl ?_
      refine zl_nil ?_
      refine zk_seq ?_
      refine zc_region ?_
      iterate 3 (refine zl_pureL rfl ?_)
      refine z_ia want_none (by decide) rfl rfl (by omega) (by omega) ?_
      try refine z_load1 (by first | exact want_none | exact want_L rfl) (by decide) rfl (cell_at e0 (by omega)) ?_
      refine z_catL (r := ss.getD k []) (by first | exact want_none | exact want_L rfl) (by decide) rfl rfl (by rw [List.length_append]; simp only [List.length_cons, List.length_nil]; omega) ?_
      refine zl_pureL rfl ?_
      refine zl_nil ?_
      refine zk_norm_block ?_
      refine zk_seq ?_
      refine zc_region ?_
      refine zl_pureL rfl ?_
      refine z_add want_none (by decide) rfl rfl (by omega) (by omega) ?_
      refine zl_pureL rfl ?_
      refine zl_nil ?_
      refine zk_loopW (k + 1) ⟨by omega, rfl⟩ (by omega) ⟨rfl, get_eq rfl ?_, get_int rfl (by simp), trivial⟩
      rw [take_getD [] hlt, join_snoc _ _ _ (take_ne h0 (by omega))]
  · obtain rfl : k = ss.length := by omega
    rw [List.take_length]
    iterate 2 (refine zc_seq ?_)
    refine zc_region ?_
    iterate 2 (refine zl_pureL rfl ?_)
    refine z_len want_none (by decide) rfl ?_
    refine z_cmpB (r := false) want_none (by decide) rfl rfl rfl (iff_of_false Bool.false_ne_true (by omega)) ?_
    refine zl_nil ?_
    refine zk_seq ?_
    refine zc_false rfl ?_
    refine zc_exit ?_
    iterate 2 (refine zk_exit_then ?_)
    refine zk_exit_block ?_
    refine zk_seq ?_
    refine zc_seq ?_
    refine zc_region ?_
    iterate 2 (refine zl_pureL rfl ?_)
    refine zl_nil ?_
    refine zk_seq ?_
    refine zc_ret ?_
    exact zk_ret1 (.inr rfl) rfl rfl ⟨rfl, hC⟩
/-! Trim -/
def ltrim : List UInt8 → List UInt8
  | [] => []
  | c :: r => if blankN c.toNat = true then ltrim r else c :: r
def rtrimN (l : List UInt8) : Nat → Nat
  | 0 => 0
  | k + 1 => if blankN (byteL l k) = true then rtrimN l k else k + 1
theorem rtrimN_le (l : List UInt8) : ∀ k, rtrimN l k ≤ k
  | 0 => Nat.le_refl 0
  | k + 1 => by unfold rtrimN; have := rtrimN_le l k; split <;> omega
def trimN (l : List UInt8) : List UInt8 := (ltrim l).take (rtrimN (ltrim l) (ltrim l).length)
theorem ltrim_drop (l : List UInt8) (i : Nat) (h : i < l.length) : ltrim (l.drop i) = if blankN (byteL l i) = true then ltrim (l.drop (i + 1)) else l.drop i := by
  rw [drop_cons0 l i h]; rfl
set_option maxHeartbeats 2000000 in
theorem trim_calls {w : World} {l : List UInt8} (hl : l.length ≤ 100000) : Calls Try.prog 26 [.string (bs l)].toArray w fun e w' => e = .returned (.string (bs (trimN l))) ∧ w' = w := by
  refine calls_zc (n := 28) (f := 26) (fn := Try.f26) Try.func26 rfl rfl (by simp) ?_
  refine zc_seq ?_
  refine zc_region ?_
  refine zl_pureL rfl ?_
  refine zl_nil ?_
  refine zk_seq ?_
  refine zc_seq ?_
  refine zc_block ?_
  refine zc_midB (fun u => u = w) [(0, .string (bs (ltrim l)))] ?_ ?_
  · refine zc_loop (ι := Nat) (fun i => [(0, .string (bs (l.drop i)))]) (fun _ => w) (fun i => i ≤ l.length ∧ ltrim (l.drop i) = ltrim l) (fun i => l.length - i) 0 ⟨Nat.zero_le _, rfl⟩ ?_ ?_ ?_
    · rfl
    · exact ⟨rfl, trivial⟩
    rintro i ⟨hi, hd⟩
    by_cases hlt : i < l.length
    · have hld := ltrim_drop l i hlt
      have hb0 : byteL (l.drop i) 0 = byteL l i := by rw [byte_drop]; rfl
      iterate 2 (refine zc_seq ?_)
      refine zc_region ?_
      refine zl_pureL rfl ?_
      refine z_neL (r := []) (by first | exact want_none | exact want_L rfl) (by decide) rfl rfl (fun _ => ?_) (fun he => absurd he (drop_ne hlt))
      have hlen : 0 < (l.drop i).length := by rw [List.length_drop]; omega
      iterate 2 (refine zl_pureL rfl ?_)
      refine z_idxC 0 (want_L rfl) (by decide) rfl rfl rfl (by omega) ?_
      refine zl_call (by first | exact want_none | exact want_L rfl) rfl (by decide) rfl (blank_calls (byteL (l.drop i) 0)) ?_
      rintro _ w1 ⟨rfl, rfl⟩
      refine ⟨_, rfl, ?_⟩
      rw [hb0]
      cases hb : blankN (byteL l i)
      · rw [hb, if_neg Bool.false_ne_true, hd] at hld
        refine zl_pureL rfl ?_
        refine zl_nil ?_
        refine zk_seq ?_
        refine zc_false rfl ?_
        refine zc_exit ?_
        iterate 2 (refine zk_exit_then ?_)
        refine zk_exit_block ?_
        exact zk_mid rfl ⟨get_eq rfl (by rw [hld]), trivial⟩
      · rw [hb, if_pos rfl] at hld
        refine zl_pureL rfl ?_
        refine zl_nil ?_
        refine zk_seq ?_
        refine zc_true rfl ?_
        refine zc_skip ?_
        refine zk_seq ?_
        refine zc_block ?_
        refine zc_region ?_
        refine zl_pureL rfl ?_
        refine z_cutN 1 (l.drop i).length (by first | exact want_none | exact want_L rfl) (by decide) rfl rfl rfl rfl rfl hlen (Nat.le_refl _) ?_
        refine zl_pureL rfl ?_
        refine zl_nil ?_
        refine zk_norm_block ?_
        refine zk_loop (i + 1) ⟨by omega, by rw [← hld, hd]⟩ (by omega) rfl ⟨get_eq rfl ?_, trivial⟩
        rw [List.take_of_length_le (by rw [List.length_drop]; omega), List.drop_drop]
    · obtain rfl : i = l.length := by omega
      rw [List.drop_length] at hd ⊢
      iterate 2 (refine zc_seq ?_)
      refine zc_region ?_
      refine zl_pureL rfl ?_
      refine z_neL (r := []) (by first | exact want_none | exact want_L rfl) (by decide) rfl rfl (fun hn => absurd rfl hn) (fun he => ?_)
      iterate 2 (refine zl_pureL rfl ?_)
      iterate 2 (refine zl_skip rfl ?_)
      refine zl_pureL rfl ?_
      refine zl_nil ?_
      refine zk_seq ?_
      refine zc_false rfl ?_
      refine zc_exit ?_
      iterate 2 (refine zk_exit_then ?_)
      refine zk_exit_block ?_
      exact zk_mid rfl ⟨get_eq rfl (by rw [← hd]; rfl), trivial⟩
  rintro u rfl
  have hml : (ltrim l).length ≤ 100000 := by
    refine Nat.le_trans ?_ hl
    clear hl
    induction l with
    | nil => exact Nat.le_refl _
    | cons c r ih => unfold ltrim; split <;> simp <;> omega
  unfold trimN
  generalize ltrim l = m at hml ⊢
  refine zc_seq ?_
  refine zc_block ?_
  refine zc_loop (ι := Nat) (fun k => [(0, .string (bs (m.take k)))]) (fun _ => u) (fun k => k ≤ m.length ∧ rtrimN m k = rtrimN m m.length) (fun k => k) m.length ⟨Nat.le_refl _, rfl⟩ ?_ ?_ ?_
  · rfl
  · exact ⟨get_eq rfl (by rw [List.take_length]), trivial⟩
  rintro k ⟨hk, hr⟩
  have hlk : (m.take k).length = k := by rw [List.length_take]; omega
  cases k with
  | zero =>
    iterate 2 (refine zc_seq ?_)
    refine zc_region ?_
    refine zl_pureL rfl ?_
    refine z_neL (r := []) (by first | exact want_none | exact want_L rfl) (by decide) rfl rfl (fun hn => absurd rfl hn) (fun he => ?_)
    iterate 3 (refine zl_pureL rfl ?_)
    iterate 4 (refine zl_skip rfl ?_)
    refine zl_pureL rfl ?_
    refine zl_nil ?_
    refine zk_seq ?_
    refine zc_false rfl ?_
    refine zc_exit ?_
    iterate 2 (refine zk_exit_then ?_)
    refine zk_exit_block ?_
    refine zk_seq ?_
    refine zc_seq ?_
    refine zc_region ?_
    iterate 2 (refine zl_pureL rfl ?_)
    refine zl_nil ?_
    refine zk_seq ?_
    refine zc_ret ?_
    refine zk_ret1 (.inr rfl) rfl rfl ⟨?_, rfl⟩
    rw [← hr]; rfl
  | succ k =>
    have hbk : byteL (m.take (k + 1)) ((m.take (k + 1)).length - 1) = byteL m k := by
      rw [hlk]; simp [byteL, List.getD_eq_getElem?_getD, List.getElem?_take]
    have hun : rtrimN m (k + 1) = if blankN (byteL m k) = true then rtrimN m k else k + 1 := rfl
    iterate 2 (refine zc_seq ?_)
    refine zc_region ?_
    refine zl_pureL rfl ?_
    refine z_neL (r := []) (by first | exact want_none | exact want_L rfl) (by decide) rfl rfl (fun _ => ?_) (fun he => by have := congrArg List.length he; rw [hlk] at this; simp at this)
    iterate 3 (refine zl_pureL rfl ?_)
    refine z_lenL (want_L rfl) (by decide) rfl ?_
    refine z_sub (want_L rfl) (by decide) rfl rfl (by omega) (by omega) ?_
    refine z_idxM (want_L rfl) (by decide) rfl rfl (by omega) (by omega) ?_
    refine zl_call (by first | exact want_none | exact want_L rfl) rfl (by decide) rfl (blank_calls (byteL (m.take (k + 1)) ((m.take (k + 1)).length - 1))) ?_
    rintro _ w1 ⟨rfl, rfl⟩
    refine ⟨_, rfl, ?_⟩
    rw [hbk]
    cases hb : blankN (byteL m k)
    · rw [hb, if_neg Bool.false_ne_true, hr] at hun
      rw [hun]
      refine zl_pureL rfl ?_
      refine zl_nil ?_
      refine zk_seq ?_
      refine zc_false rfl ?_
      refine zc_exit ?_
      iterate 2 (refine zk_exit_then ?_)
      refine zk_exit_block ?_
      refine zk_seq ?_
      refine zc_seq ?_
      refine zc_region ?_
      iterate 2 (refine zl_pureL rfl ?_)
      refine zl_nil ?_
      refine zk_seq ?_
      refine zc_ret ?_
      exact zk_ret1 (.inr rfl) rfl rfl ⟨rfl, rfl⟩
    · rw [hb, if_pos rfl, hr] at hun
      refine zl_pureL rfl ?_
      refine zl_nil ?_
      refine zk_seq ?_
      refine zc_true rfl ?_
      refine zc_skip ?_
      refine zk_seq ?_
      refine zc_block ?_
      refine zc_region ?_
      iterate 2 (refine zl_pureL rfl ?_)
      refine z_lenL want_none (by decide) rfl ?_
      refine z_sub want_none (by decide) rfl rfl (by omega) (by omega) ?_
      refine z_cutN 0 k (by first | exact want_none | exact want_L rfl) (by decide) rfl rfl rfl rfl (by rw [hlk]; omega) (Nat.zero_le _) (by rw [hlk]; omega) ?_
      refine zl_pureL rfl ?_
      refine zl_nil ?_
      refine zk_norm_block ?_
      refine zk_loop k ⟨by omega, hun.symm⟩ (by omega) rfl ⟨get_eq rfl ?_, trivial⟩
      rw [List.drop_zero, Nat.sub_zero, List.take_take, Nat.min_eq_left (by omega)]
set_option maxHeartbeats 2000000 in
theorem trimR_calls {w : World} {l : List UInt8} (hl : l.length ≤ 100000) : Calls Try.prog 27 [.string (bs l)].toArray w fun e w' => e = .returned (.string (bs (trimN l))) ∧ w' = w := by
  refine calls_zc (n := 34) (f := 27) (fn := Try.f27) Try.func27 rfl rfl (by simp) ?_
  refine zc_seq ?_
  refine zc_region ?_
  refine zl_pureL rfl ?_
  refine zl_nil ?_
  refine zk_seq ?_
  refine zc_seq ?_
  refine zc_region ?_
  refine zl_pureL rfl ?_
  refine z_lenL want_none (by decide) rfl ?_
  iterate 2 (refine zl_pureL rfl ?_)
  refine zl_nil ?_
  refine zk_seq ?_
  refine zc_seq ?_
  refine zc_block ?_
  obtain ⟨f, hf, hfl⟩ : ∃ f, f ≤ l.length ∧ ltrim l = l.drop f := by
    clear hl
    induction l with
    | nil => exact ⟨0, Nat.le_refl _, rfl⟩
    | cons c r ih =>
      obtain ⟨f, h1, h2⟩ := ih
      unfold ltrim
      split
      · exact ⟨f + 1, by simp; omega, h2⟩
      · exact ⟨0, by simp, rfl⟩
  refine zc_midB (fun u => u = w) [(0, .string (bs l)), (3, .int .i64 f), (4, .int .i64 l.length)] ?_ ?_
  · refine zc_loop (ι := Nat) (fun i => [(0, .string (bs l)), (3, .int .i64 i), (4, .int .i64 l.length)]) (fun _ => w) (fun i => i ≤ l.length ∧ ltrim (l.drop i) = ltrim l) (fun i => l.length - i) 0 ⟨Nat.zero_le _, rfl⟩ ?_ ?_ ?_
    · rfl
    · exact ⟨rfl, rfl, rfl, trivial⟩
    rintro i ⟨hi, hd⟩
    have hdone : l.drop i = l.drop f → i = f := fun h => by
      have := congrArg List.length h
      rw [List.length_drop, List.length_drop] at this; omega
    by_cases hlt : i < l.length
    · have hld := ltrim_drop l i hlt
      iterate 2 (refine zc_seq ?_)
      refine zc_region ?_
      iterate 2 (refine zl_pureL rfl ?_)
      refine z_cmpB (r := true) want_none (by decide) rfl rfl rfl (iff_of_true rfl (by omega)) ?_
      iterate 3 (refine zl_pureL rfl ?_)
      refine z_idxN (want_L rfl) (by decide) rfl rfl (by omega) ?_
      refine zl_call (by first | exact want_none | exact want_L rfl) rfl (by decide) rfl (blankR_calls (byteL l i)) ?_
      rintro _ w1 ⟨rfl, rfl⟩
      refine ⟨_, rfl, ?_⟩
      cases hb : blankN (byteL l i)
      · rw [hb, if_neg Bool.false_ne_true, hd, hfl] at hld
        have hif := hdone hld.symm
        refine zl_pureL rfl ?_
        refine zl_nil ?_
        refine zk_seq ?_
        refine zc_false rfl ?_
        refine zc_exit ?_
        iterate 2 (refine zk_exit_then ?_)
        refine zk_exit_block ?_
        exact zk_mid rfl ⟨rfl, get_int rfl (by rw [hif]), rfl, trivial⟩
      · rw [hb, if_pos rfl] at hld
        refine zl_pureL rfl ?_
        refine zl_nil ?_
        refine zk_seq ?_
        refine zc_true rfl ?_
        refine zc_skip ?_
        refine zk_seq ?_
        refine zc_block ?_
        refine zc_region ?_
        refine zl_pureL rfl ?_
        refine z_add want_none (by decide) rfl rfl (by omega) (by omega) ?_
        refine zl_pureL rfl ?_
        refine zl_nil ?_
        refine zk_norm_block ?_
        exact zk_loop (i + 1) ⟨by omega, by rw [← hld, hd]⟩ (by omega) rfl ⟨rfl, get_int rfl (by simp), rfl, trivial⟩
    · obtain rfl : i = l.length := by omega
      have hif : l.length = f := hdone (by rw [← hfl, ← hd, List.drop_length]; rfl)
      iterate 2 (refine zc_seq ?_)
      refine zc_region ?_
      iterate 2 (refine zl_pureL rfl ?_)
      refine z_cmpB (r := false) want_none (by decide) rfl rfl rfl (iff_of_false Bool.false_ne_true (by omega)) ?_
      iterate 3 (refine zl_pureL rfl ?_)
      iterate 2 (refine zl_skip rfl ?_)
      refine zl_pureL rfl ?_
      refine zl_nil ?_
      refine zk_seq ?_
      refine zc_false rfl ?_
      refine zc_exit ?_
      iterate 2 (refine zk_exit_then ?_)
      refine zk_exit_block ?_
      exact zk_mid rfl ⟨rfl, get_int rfl (by rw [← hif]), rfl, trivial⟩
  rintro u rfl
  unfold trimN
  rw [hfl]
  have hml : (l.drop f).length = l.length - f := List.length_drop ..
  refine zc_seq ?_
  refine zc_block ?_
  refine zc_loop (ι := Nat) (fun k => [(0, .string (bs l)), (3, .int .i64 f), (4, .int .i64 ((f + k : Nat) : Int))]) (fun _ => u) (fun k => k ≤ l.length - f ∧ rtrimN (l.drop f) k = rtrimN (l.drop f) (l.drop f).length) (fun k => k) (l.length - f) ⟨Nat.le_refl _, by rw [hml]⟩ ?_ ?_ ?_
  · rfl
  · exact ⟨rfl, rfl, get_int rfl (by omega), trivial⟩
  rintro k ⟨hk, hr⟩
  have hdone : rtrimN (l.drop f) (l.drop f).length = k → ((l.drop f).take (f + k - f)) = (l.drop f).take (rtrimN (l.drop f) (l.drop f).length) := fun h => by rw [h, show f + k - f = k by omega]
  cases k with
  | zero =>
    iterate 2 (refine zc_seq ?_)
    refine zc_region ?_
    iterate 2 (refine zl_pureL rfl ?_)
    refine z_cmpB (r := false) want_none (by decide) rfl rfl rfl (iff_of_false Bool.false_ne_true (by omega)) ?_
    iterate 3 (refine zl_pureL rfl ?_)
    iterate 3 (refine zl_skip rfl ?_)
    refine zl_pureL rfl ?_
    refine zl_nil ?_
    refine zk_seq ?_
    refine zc_false rfl ?_
    refine zc_exit ?_
    iterate 2 (refine zk_exit_then ?_)
    refine zk_exit_block ?_
    refine zk_seq ?_
    refine zc_seq ?_
    refine zc_region ?_
    iterate 3 (refine zl_pureL rfl ?_)
    refine z_cutN f (f + 0) (by first | exact want_none | exact want_L rfl) (by decide) rfl rfl rfl rfl rfl (by omega) (by omega) ?_
    rw [hdone hr.symm]
    refine zl_pureL rfl ?_
    refine zl_nil ?_
    refine zk_seq ?_
    refine zc_ret ?_
    exact zk_ret1 (.inr rfl) rfl rfl ⟨rfl, rfl⟩
  | succ k =>
    have hbk : byteL l (f + (k + 1) - 1) = byteL (l.drop f) k := by rw [byte_drop]; rfl
    have hun : rtrimN (l.drop f) (k + 1) = if blankN (byteL (l.drop f) k) = true then rtrimN (l.drop f) k else k + 1 := rfl
    iterate 2 (refine zc_seq ?_)
    refine zc_region ?_
    iterate 2 (refine zl_pureL rfl ?_)
    refine z_cmpB (r := true) want_none (by decide) rfl rfl rfl (iff_of_true rfl (by omega)) ?_
    iterate 3 (refine zl_pureL rfl ?_)
    refine z_sub (want_L rfl) (by decide) rfl rfl (by omega) (by omega) ?_
    refine z_idxM (want_L rfl) (by decide) rfl rfl (by omega) (by omega) ?_
    refine zl_call (by first | exact want_none | exact want_L rfl) rfl (by decide) rfl (blankR_calls (byteL l (f + (k + 1) - 1))) ?_
    rintro _ w1 ⟨rfl, rfl⟩
    refine ⟨_, rfl, ?_⟩
    rw [hbk]
    cases hb : blankN (byteL (l.drop f) k)
    · rw [hb, if_neg Bool.false_ne_true, hr] at hun
      refine zl_pureL rfl ?_
      refine zl_nil ?_
      refine zk_seq ?_
      refine zc_false rfl ?_
      refine zc_exit ?_
      iterate 2 (refine zk_exit_then ?_)
      refine zk_exit_block ?_
      refine zk_seq ?_
      refine zc_seq ?_
      refine zc_region ?_
      iterate 3 (refine zl_pureL rfl ?_)
      refine z_cutN f (f + (k + 1)) (by first | exact want_none | exact want_L rfl) (by decide) rfl rfl rfl rfl rfl (by omega) (by omega) ?_
      rw [hdone hun]
      refine zl_pureL rfl ?_
      refine zl_nil ?_
      refine zk_seq ?_
      refine zc_ret ?_
      exact zk_ret1 (.inr rfl) rfl rfl ⟨rfl, rfl⟩
    · rw [hb, if_pos rfl, hr] at hun
      refine zl_pureL rfl ?_
      refine zl_nil ?_
      refine zk_seq ?_
      refine zc_true rfl ?_
      refine zc_skip ?_
      refine zk_seq ?_
      refine zc_block ?_
      refine zc_region ?_
      refine zl_pureL rfl ?_
      refine z_sub want_none (by decide) rfl rfl (by omega) (by omega) ?_
      refine zl_pureL rfl ?_
      refine zl_nil ?_
      refine zk_norm_block ?_
      exact zk_loop k ⟨by omega, hun.symm⟩ (by omega) rfl ⟨rfl, rfl, get_int rfl (by omega), trivial⟩
end Go.Proofs.Ytmhbdalemgmfcaa.T
