import Derived.Test.YtaagolhokejflaaMWalls
/- MarksFour: attributes held against each other as the document has it; never four alike. -/
namespace Go.Proofs.Ytaagolhokejflaa.M
open Go Go.Z Go.Proofs
set_option linter.unusedVariables false
def eqA (x y : At) : Bool := decide (x.1 = y.1) && (decide (x.2 = y.2) && true)
def rsame (a b : List At) : Bool := a.all (fun x => b.any (eqA x)) && decide ((a.length : Int) = b.length)
theorem any_take {α : Type} (d : α) (p : α → Bool) (l : List α) (k : Nat) (h : k < l.length) : (l.take (k + 1)).any p = ((l.take k).any p || p (l.getD k d)) := by
  rw [take_getD d h, List.any_append]; simp
set_option maxHeartbeats 4000000 in
theorem same3_calls {w : World} {v1 v2 : Value} {l1 l2 : List At} (h1 : AttrS w v1 l1) (h2 : AttrS w v2 l2) (hl1 : l1.length ≤ 100000) (hl2 : l2.length ≤ 100000) :
    Calls Try.prog 23 [v1, v2].toArray w fun e w' => e = .returned (.bool (rsame l1 l2)) ∧ Chg w w' No := by
  obtain ⟨A1, c1, hv1, hc1⟩ := h1.form
  obtain ⟨A2, c2, hv2, hc2⟩ := h2.form
  subst hv1; subst hv2
  refine calls_zc (n := 39) (f := 23) (fn := Try.f23) Try.func23 rfl rfl (by simp) ?_
  refine zc_seq ?_
  refine zc_region ?_
  refine zl_pureL rfl ?_
  refine zl_nil ?_
  refine zk_seq ?_
  iterate 2 (refine zc_seq ?_)
  refine zc_region ?_
  refine zl_pureL rfl ?_
  refine zl_nil ?_
  refine zk_seq ?_
  refine zc_block ?_
  refine zc_loopW (ι := Nat) (fun k u => [(0, .slice A1 l1.length c1), (1, .slice A2 l2.length c2), (5, .int .i64 k)])
    (fun k u => k ≤ l1.length ∧ Chg w u No ∧ rsame l1 l2 = ((l1.drop k).all (fun x => l2.any (eqA x)) && decide ((l1.length : Int) = l2.length))) (fun k u => l1.length - k) 0 ⟨Nat.zero_le _, Chg.refl _ _, rfl⟩ ?_ ?_
  · exact ⟨rfl, rfl, rfl, trivial⟩
  rintro k u ⟨hk, hC, hb⟩
  by_cases hlt : k < l1.length
  · iterate 2 (refine zc_seq ?_)
    refine zc_region ?_
    iterate 2 (refine zl_pureL rfl ?_)
    refine z_len want_none (by decide) rfl ?_
    refine z_cmpB (r := true) want_none (by decide) rfl rfl rfl (iff_of_true rfl (by omega)) ?_
    refine zl_nil ?_
    refine zk_seq ?_
    refine zc_true rfl ?_
    refine zc_skip ?_
    refine zk_seq ?_
    refine zc_seq ?_
    refine zc_block ?_
    refine zc_seq ?_
    refine zc_region ?_
    refine zl_pureL rfl ?_
    refine zl_nil ?_
    refine zk_seq ?_
    iterate 2 (refine zc_seq ?_)
    refine zc_region ?_
    refine zl_pureL rfl ?_
    refine zl_nil ?_
    refine zk_seq ?_
    refine zc_block ?_
    refine zc_midB (fun u' => Chg w u' No) [(0, .slice A1 l1.length c1), (1, .slice A2 l2.length c2), (5, .int .i64 k), (6, .bool (l2.any (eqA (l1.getD k at0))))] ?_ ?_
    · refine zc_loopW (ι := Nat) (fun q u => [(0, .slice A1 l1.length c1), (1, .slice A2 l2.length c2), (5, .int .i64 k), (6, .bool ((l2.take q).any (eqA (l1.getD k at0)))), (7, .int .i64 q)])
        (fun q u => q ≤ l2.length ∧ Chg w u No) (fun q u => l2.length - q) 0 ⟨Nat.zero_le _, hC⟩ ?_ ?_
      · exact ⟨rfl, rfl, rfl, rfl, rfl, trivial⟩
      rintro q u2 ⟨hq, hC2⟩
      by_cases hql : q < l2.length
      · obtain ⟨b, o, c', hv, g0, g1⟩ := (h1.no hC2).at_ k hlt
        obtain ⟨b', o', c'', hv', g0', g1'⟩ := (h2.no hC2).at_ q hql
        cases hv; cases hv'
        have ht := any_take at0 (eqA (l1.getD k at0)) l2 q hql
        cases hq1 : (l2.take q).any (eqA (l1.getD k at0))
        · rw [hq1, Bool.false_or] at ht
          iterate 2 (refine zc_seq ?_)
          refine zc_region ?_
          iterate 2 (refine zl_pureL rfl ?_)
          refine z_len want_none (by decide) rfl ?_
          refine z_cmpB (r := true) want_none (by decide) rfl rfl rfl (iff_of_true rfl (by omega)) ?_
          refine zl_nil ?_
          refine zk_seq ?_
          refine zc_true rfl ?_
          refine zc_skip ?_
          refine zk_seq ?_
          refine zc_seq ?_
          refine zc_block ?_
          refine zc_draw [] (fun w' => Chg u2 w' No) (.take 0 (.take 1 (.take 2 (.take 3 (.take 4 (.take 5 (.take 6 (.take 7 (.take 8 (.take 9 (.take 10 (.take 11 (.take 12 (.fin)))))))))))))) (by rfl) (by kernel_rfl) (by kernel_rfl) (fun w1 hC1 hH1 => ⟨?_, ?_⟩)
          · exact hC1
          iterate 4 (refine zs_take rfl (zt_pure rfl ?_))
          refine zs_rdL rfl (want_L rfl) rfl (by decide) (fun _ hS => r_ia rfl rfl (by omega) (by omega)) ?_
          refine zs_rdL rfl (by first | exact want_none | exact want_L rfl) rfl (by decide) (fun _ hS => r_loadA (by rfl) rfl (agg2 (cell_no hS g0) (cell_no hS g1) (by omega))) ?_
          iterate 2 (refine zs_take rfl (zt_pure rfl ?_))
          refine zs_rdL rfl (want_L rfl) rfl (by decide) (fun _ hS => r_ia rfl rfl (by omega) (by omega)) ?_
          refine zs_rdL rfl (by first | exact want_none | exact want_L rfl) rfl (by decide) (fun _ hS => r_loadA (by rfl) rfl (agg2 (cell_no hS g0') (cell_no hS g1') (by omega))) ?_
          refine zs_rdL rfl (by first | exact want_none | exact want_L rfl) rfl (by decide) (fun _ hS => r_eqA rfl rfl (by kernel_rfl) (fun d => eq_attr d)) ?_
          iterate 2 (refine zs_take rfl (zt_pure rfl ?_))
          refine zs_fin ?_
          refine zk_norm_block ?_
          refine zk_seq ?_
          refine zc_region ?_
          refine zl_pureL rfl ?_
          refine z_add want_none (by decide) rfl rfl (by omega) (by omega) ?_
          refine zl_pureL rfl ?_
          refine zl_nil ?_
          exact zk_loopW (q + 1) ⟨by omega, hC2.no hC1⟩ (by omega) ⟨rfl, rfl, rfl, get_eq rfl (by rw [ht]; rfl), get_int rfl (by simp), trivial⟩
        · rw [hq1, Bool.true_or] at ht
          iterate 2 (refine zc_seq ?_)
          refine zc_region ?_
          iterate 2 (refine zl_pureL rfl ?_)
          refine z_len want_none (by decide) rfl ?_
          refine z_cmpB (r := true) want_none (by decide) rfl rfl rfl (iff_of_true rfl (by omega)) ?_
          refine zl_nil ?_
          refine zk_seq ?_
          refine zc_true rfl ?_
          refine zc_skip ?_
          refine zk_seq ?_
          refine zc_seq ?_
          refine zc_block ?_
          refine zc_draw [] (fun w' => Chg u2 w' No) (.take 0 (.take 1 (.take 2 (.take 3 (.take 4 (.take 5 (.take 6 (.take 7 (.take 8 (.take 9 (.take 10 (.take 11 (.take 12 (.fin)))))))))))))) (by rfl) (by kernel_rfl) (by kernel_rfl) (fun w1 hC1 hH1 => ⟨?_, ?_⟩)
          · exact hC1
          iterate 4 (refine zs_take rfl (zt_pure rfl ?_))
          iterate 2 (refine zs_take rfl (zt_skip rfl ?_))
          iterate 2 (refine zs_take rfl (zt_pure rfl ?_))
          iterate 3 (refine zs_take rfl (zt_skip rfl ?_))
          iterate 2 (refine zs_take rfl (zt_pure rfl ?_))
          refine zs_fin ?_
          refine zk_norm_block ?_
          refine zk_seq ?_
          refine zc_region ?_
          refine zl_pureL rfl ?_
          refine z_add want_none (by decide) rfl rfl (by omega) (by omega) ?_
          refine zl_pureL rfl ?_
          refine zl_nil ?_
          exact zk_loopW (q + 1) ⟨by omega, hC2.no hC1⟩ (by omega) ⟨rfl, rfl, rfl, get_eq rfl (by rw [ht]), get_int rfl (by simp), trivial⟩
      · obtain rfl : q = l2.length := by omega
        iterate 2 (refine zc_seq ?_)
        refine zc_region ?_
        iterate 2 (refine zl_pureL rfl ?_)
        refine z_len want_none (by decide) rfl ?_
        refine z_cmpB (r := false) want_none (by decide) rfl rfl rfl (iff_of_false Bool.false_ne_true (by omega)) ?_
        refine zl_nil ?_
        refine zk_seq ?_
        refine zc_false rfl ?_
        refine zc_exit ?_
        iterate 2 (refine zk_exit_then ?_)
        refine zk_exit_block ?_
        exact zk_mid hC2 ⟨rfl, rfl, rfl, get_eq rfl (by rw [List.take_length]), trivial⟩
    intro u3 hC3
    cases hq : l2.any (eqA (l1.getD k at0))
    · refine zc_seq ?_
      refine zc_region ?_
      iterate 2 (refine zl_pureL rfl ?_)
      refine zl_nil ?_
      refine zk_seq ?_
      refine zc_true rfl ?_
      refine zc_seq ?_
      refine zc_region ?_
      refine zl_pureL rfl ?_
      refine zl_nil ?_
      refine zk_seq ?_
      refine zc_ret ?_
      refine zk_ret_block ?_
      iterate 2 (refine zk_ret_then ?_)
      refine zk_ret_block ?_
      refine zk_ret_then ?_
      refine zk_ret1 (.inr rfl) rfl rfl ⟨?_, hC3⟩
      rw [hb, all_drop at0 _ _ _ hlt, hq]; rfl
    · refine zc_seq ?_
      refine zc_region ?_
      iterate 2 (refine zl_pureL rfl ?_)
      refine zl_nil ?_
      refine zk_seq ?_
      refine zc_false rfl ?_
      refine zc_skip ?_
      refine zk_norm_block ?_
      refine zk_seq ?_
      refine zc_region ?_
      refine zl_pureL rfl ?_
      refine z_add want_none (by decide) rfl rfl (by omega) (by omega) ?_
      refine zl_pureL rfl ?_
      refine zl_nil ?_
      refine zk_loopW (k + 1) ⟨by omega, hC3, ?_⟩ (by omega) ⟨rfl, rfl, get_int rfl (by simp), trivial⟩
      rw [hb, all_drop at0 _ _ _ hlt, hq]; rfl
  · obtain rfl : k = l1.length := by omega
    iterate 2 (refine zc_seq ?_)
    refine zc_region ?_
    iterate 2 (refine zl_pureL rfl ?_)
    refine z_len want_none (by decide) rfl ?_
    refine z_cmpB (r := false) want_none (by decide) rfl rfl rfl (iff_of_false Bool.false_ne_true (by omega)) ?_
    refine zl_nil ?_
    refine zk_seq ?_
    refine zc_false rfl ?_
    refine zc_exit ?_
    iterate 2 (refine zk_exit_then ?_)
    refine zk_exit_block ?_
    refine zk_seq ?_
    refine zc_seq ?_
    refine zc_region ?_
    refine zl_pureL rfl ?_
    refine z_len want_none (by decide) rfl ?_
    refine zl_pureL rfl ?_
    refine z_len want_none (by decide) rfl ?_
    refine z_cmpB (r := decide ((l1.length : Int) = l2.length)) (by first | exact want_none | exact want_L rfl) (by decide) rfl rfl rfl (by simp) ?_
    refine zl_pureL rfl ?_
    refine zl_nil ?_
    refine zk_seq ?_
    refine zc_ret ?_
    refine zk_ret1 (.inr rfl) rfl rfl ⟨?_, hC⟩
    rw [hb, List.drop_length]; rfl
/-! the plain law -/
def rel (y b : Mark) : Bool := decide (y.name = b.name) && rsame y.attrs b.attrs
theorem tab4 : ∀ b1, b1 < 4 → ∀ b2, b2 < 4 → ∀ b3, b3 < 4 → rsame (attrsL b1) (attrsL b2) = true → rsame (attrsL b1) (attrsL b3) = (decide (((attrsL b3).length : Int) = (attrsL b2).length) && true && tagSame (attrsL b3) (attrsL b2)) := by
  decide +kernel
def At4 (m : Mark) : Prop := ∃ b, b < 4 ∧ m.attrs = attrsL b
theorem rel_alike {y x b : Mark} (hy : At4 y) (hx : At4 x) (hb : At4 b) (h : rel y x = true) : rel y b = alike x b := by
  obtain ⟨b1, h1, e1⟩ := hy
  obtain ⟨b2, h2, e2⟩ := hx
  obtain ⟨b3, h3, e3⟩ := hb
  unfold rel at h ⊢
  unfold alike keyEq
  simp only [Bool.and_eq_true, decide_eq_true_eq] at h
  obtain ⟨hn, hr⟩ := h
  rw [e1, e2] at hr
  have ht := tab4 b1 h1 b2 h2 b3 h3 hr
  rw [e1, e3, e2, ht, hn]
  by_cases hq : x.name = b.name
  · rw [hq]; simp
  · have : ¬ b.name = x.name := fun h => hq h.symm
    simp [hq, this]
structure Inv4 (L : List Mark) : Prop where
  good : ∀ m ∈ L, 0 ≤ m.node → At4 m
  few : Few L
  three : ∀ y, At4 y → ((L.drop (beginN L L.length)).filter (rel y)).length ≤ 3
theorem beginN_spec (L : List Mark) : ∀ n, n ≤ L.length → (∀ q, beginN L n ≤ q → q < n → 0 ≤ (L.getD q Mark.z).node) ∧ (beginN L n = 0 ∨ (L.getD (beginN L n - 1) Mark.z).node < 0)
  | 0, _ => ⟨fun q h1 h2 => by omega, .inl rfl⟩
  | n + 1, hn => by
    unfold beginN
    split
    · rename_i h0
      obtain ⟨h1, h2⟩ := beginN_spec L n (by omega)
      refine ⟨fun q hq hq2 => ?_, h2⟩
      by_cases he : q = n
      · subst he; exact h0
      · exact h1 q hq (by omega)
    · rename_i h0
      exact ⟨fun q h1 h2 => by omega, .inr (by simpa using h0)⟩
theorem beginN_of (L : List Mark) (p : Nat) (hp : p = 0 ∨ (L.getD (p - 1) Mark.z).node < 0) : ∀ n, p ≤ n → n ≤ L.length → (∀ q, p ≤ q → q < n → 0 ≤ (L.getD q Mark.z).node) → beginN L n = p
  | 0, h, _, _ => by unfold beginN; omega
  | n + 1, h, hn, hq => by
    unfold beginN
    by_cases he : p = n + 1
    · subst he
      rw [if_neg]
      rcases hp with hp | hp
      · omega
      · rw [show n + 1 - 1 = n by omega] at hp; omega
    · rw [if_pos (hq n (by omega) (by omega))]
      exact beginN_of L p hp n (by omega) (by omega) (fun q h1 h2 => hq q h1 (by omega))
theorem firstF_at (L : List Mark) (x : Mark) : ∀ (f k : Nat), f = L.length - k → k ≤ L.length → 0 < manyF L x k → alike x (L.getD (firstF L x k f).toNat Mark.z) = true
  | 0, k, hf, hk, hm => by have := manyF_le L x k; omega
  | f + 1, k, hf, hk, hm => by
    unfold firstF
    split
    · simpa
    · rename_i hn
      exact firstF_at L x f (k + 1) (by omega) (by omega) (by
        unfold manyF at hm ⊢
        rw [drop_cons Mark.z L k (by omega), List.filter_cons, if_neg hn] at hm
        exact hm)
theorem filter_drop (p : Mark → Bool) (R : List Mark) (j : Nat) (hj : j < R.length) (hp : p (R.getD j Mark.z) = true) : ((dropM R j).filter p).length + 1 = (R.filter p).length := by
  have e : R = R.take j ++ R.getD j Mark.z :: R.drop (j + 1) := by rw [← drop_cons Mark.z R j hj, List.take_append_drop]
  conv => rhs; rw [e]
  unfold dropM
  rw [List.filter_append, List.filter_append, List.filter_cons, if_pos hp]
  simp; omega
theorem Inv4.push {L : List Mark} (h : Inv4 L) {x : Mark} (hx : At4 x) (hn : 0 ≤ x.node) (hxl : x.attrs.length ≤ 100000) : Inv4 (pushM L x) := by
  obtain ⟨hs1, hs2⟩ := beginN_spec L L.length (Nat.le_refl _)
  have hle := beginN_le L L.length
  refine ⟨fun m hm h0 => ?_, h.few.push hxl, fun y hy => ?_⟩
  · rcases pushM_mem L x m hm with h1 | rfl
    · exact h.good m h1 h0
    · exact hx
  · obtain ⟨P, hP⟩ : ∃ P, P = L.take (beginN L L.length) := ⟨_, rfl⟩
    obtain ⟨R, hR⟩ : ∃ R, R = L.drop (beginN L L.length) := ⟨_, rfl⟩
    have hL : L = P ++ R := by rw [hP, hR, List.take_append_drop]
    have hPl : P.length = beginN L L.length := by rw [hP, List.length_take]; omega
    have hRn : ∀ m ∈ R, 0 ≤ m.node := fun m hm => by
      obtain ⟨q, hq, rfl⟩ := List.getElem_of_mem hm
      have h1 := hs1 (beginN L L.length + q) (by omega) (by rw [hR, List.length_drop] at hq; omega)
      rw [List.getD_eq_getElem?_getD, ← List.getElem?_drop, ← hR, List.getElem?_eq_getElem hq] at h1
      exact h1
    have hRg : ∀ m ∈ R, At4 m := fun m hm => h.good m (by rw [hL]; exact List.mem_append_right _ hm) (hRn m hm)
    have hmany : manyF L x (beginN L L.length) = (R.filter (alike x)).length := by unfold manyF; rw [← hR]
    have h3 := h.three y hy
    rw [← hR] at h3
    -- the new suffix
    obtain ⟨R', hR', hRx, hRm⟩ : ∃ R', pushM L x = P ++ (R' ++ [x]) ∧ (∀ m ∈ R', m ∈ R) ∧ (R'.filter (rel y)).length ≤ 3 ∧ (rel y x = true → (R'.filter (rel y)).length ≤ 2) := by
      unfold pushM
      rw [hmany]
      split
      · rename_i hc
        obtain ⟨hf0, hf1⟩ := firstF_lt L x _ _ rfl hle (by rw [hmany]; omega)
        have hge := firstF_ge L x _ _ rfl hle (by rw [hmany]; omega)
        have hat := firstF_at L x _ _ rfl hle (by rw [hmany]; omega)
        generalize firstF L x (beginN L L.length) (L.length - beginN L L.length) = j at hf0 hf1 hge hat
        have hjP : P.length ≤ j.toNat := by omega
        have hd : dropM L j.toNat = P ++ dropM R (j.toNat - P.length) := by
          conv => lhs; rw [hL]
          exact dropM_app P R _ hjP
        have hjR : j.toNat - P.length < R.length := by rw [hR, List.length_drop]; omega
        have hat' : alike x (R.getD (j.toNat - P.length) Mark.z) = true := by
          rw [← getD_app Mark.z P R _ hjP, ← hL]; exact hat
        refine ⟨dropM R (j.toNat - P.length), by rw [hd, List.append_assoc], fun m hm => dropM_mem hm, ?_, fun hr => ?_⟩
        · refine Nat.le_trans ?_ h3
          unfold dropM
          conv => rhs; rw [← List.take_append_drop (j.toNat - P.length) R]
          rw [List.filter_append, List.filter_append, List.length_append, List.length_append]
          have : ((R.drop (j.toNat - P.length + 1)).filter (rel y)).length ≤ ((R.drop (j.toNat - P.length)).filter (rel y)).length := by
            rw [drop_cons Mark.z R _ hjR, List.filter_cons]
            split
            · simp
            · exact Nat.le_refl _
          omega
        · have := filter_drop (rel y) R (j.toNat - P.length) hjR (by rw [rel_alike hy hx (hRg _ (getD_mem hjR)) hr]; exact hat')
          omega
      · rename_i hc
        refine ⟨R, by rw [hL, List.append_assoc], fun m hm => hm, h3, fun hr => ?_⟩
        have : R.filter (rel y) = R.filter (alike x) := List.filter_congr (fun b hb => rel_alike hy hx (hRg b hb) hr)
        rw [this]; omega
    have hb : beginN (P ++ (R' ++ [x])) (P ++ (R' ++ [x])).length = P.length := by
      refine beginN_of _ _ ?_ _ (by simp) (Nat.le_refl _) ?_
      · rcases hs2 with h1 | h1
        · exact .inl (hPl.trans h1)
        · by_cases hz : P.length = 0
          · exact .inl hz
          · refine .inr ?_
            rw [← hPl, hL, List.getD_eq_getElem?_getD, List.getElem?_append_left (by omega)] at h1
            rw [List.getD_eq_getElem?_getD, List.getElem?_append_left (by omega)]
            exact h1
      · intro q h1 h2
        rw [getD_app _ _ _ _ h1]
        have hm := getD_mem (d := Mark.z) (l := R' ++ [x]) (k := q - P.length) (by rw [List.length_append] at h2; omega)
        rcases List.mem_append.1 hm with h | h
        · exact hRn _ (hRx _ h)
        · rw [List.mem_singleton.1 h]; exact hn
    rw [hR', hb, List.drop_left, List.filter_append, List.length_append]
    cases hr : rel y x
    · have : [x].filter (rel y) = [] := by simp [hr]
      rw [this]; simpa using hRm.1
    · have : [x].filter (rel y) = [x] := by simp [hr]
      rw [this]; have := hRm.2 hr; simp; omega
theorem Inv4.wall {L : List Mark} (h : Inv4 L) : Inv4 (L ++ [Mark.wall]) := by
  refine ⟨fun m hm h0 => ?_, h.few.wall, fun y hy => ?_⟩
  · rcases List.mem_append.1 hm with h1 | h1
    · exact h.good m h1 h0
    · simp only [List.mem_singleton] at h1; subst h1; exact absurd h0 (by decide)
  · have : beginN (L ++ [Mark.wall]) (L ++ [Mark.wall]).length = (L ++ [Mark.wall]).length := by
      have := beginN_app L [] (fun m hm => by cases hm)
      simpa using this
    rw [this, List.drop_length]; exact Nat.zero_le _
theorem Inv4.nil : Inv4 [] := ⟨fun m hm => (by cases hm), fun m hm => (by cases hm), fun y hy => Nat.zero_le _⟩
end Go.Proofs.Ytaagolhokejflaa.M
