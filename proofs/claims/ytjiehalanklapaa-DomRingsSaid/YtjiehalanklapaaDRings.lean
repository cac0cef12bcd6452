import Derived.Test.YtjiehalanklapaaDMoves
/- DomRings: the walk. -/
namespace Go.Proofs.Ytjiehalanklapaa.D
open Go Go.Z Go.Proofs
set_option linter.unusedVariables false
def chS (j : Nat) : ByteArray := if j = 0 then ⟨#[]⟩ else ⟨#[120]⟩
theorem chS_pos {j : Nat} (h : 0 < j) : chS j = ⟨#[120]⟩ := by unfold chS; rw [if_neg (by omega)]
def chX (m j : Nat) : ND := ⟨1, 1, chS j, [], [], (j : Int) - 1, if j < m then [j + 1] else []⟩
def chN (m : Nat) : List ND := (List.range (m + 1)).map (chX m)
theorem chN_len (m : Nat) : (chN m).length = m + 1 := by simp [chN]
theorem chN_get (m i : Nat) (h : i ≤ m) : (chN m).getD i n0 = chX m i := by
  unfold chN
  rw [List.getD_eq_getElem?_getD, List.getElem?_map, List.getElem?_range (by omega)]; rfl
theorem nd_ext {N N' : List ND} (hl : N.length = N'.length) (h : ∀ i, i < N.length → N.getD i n0 = N'.getD i n0) : N = N' := by
  apply List.ext_getElem hl
  intro i h1 h2
  have := h i h1
  rw [List.getD_eq_getElem?_getD, List.getD_eq_getElem?_getD, List.getElem?_eq_getElem h1, List.getElem?_eq_getElem h2] at this
  exact this
theorem chN_big (m : Nat) : BigT (chN m) := BigT.of (fun x hx => by
  obtain ⟨j, _, rfl⟩ := List.mem_map.1 hx
  exact ⟨by simp [chX], by simp [chX]⟩)
theorem chN_zero : chN 0 = rootN := by rfl
def chE : ND := ⟨1, 1, ⟨#[120]⟩, [], [], -1, []⟩
theorem chN_succ (m : Nat) : layN (chN m ++ [chE]) (m + 1) m 0 = chN (m + 1) := by
  have hl : (chN m ++ [chE]).length = m + 2 := by rw [List.length_append, chN_len]; rfl
  have hcl := chN_len m
  refine nd_ext (by rw [layN_len, hl, chN_len]) (fun i hi => ?_)
  rw [layN_len, hl] at hi
  have gm : (chN m ++ [chE]).getD m n0 = chX m m := by rw [getD_add, if_neg (by omega), chN_get m m (Nat.le_refl _)]
  have gs : (chN m ++ [chE]).getD (m + 1) n0 = chE := by rw [getD_add, if_pos hcl.symm]
  rw [layN_get (by omega) (by omega), chN_get (m + 1) i (by omega), gm, gs]
  by_cases h1 : i = m + 1
  · subst h1
    rw [if_pos rfl]
    unfold chX chE
    rw [if_neg (by omega), chS_pos (by omega)]
    simp
  · rw [if_neg h1]
    by_cases h2 : i = m
    · subst h2
      rw [if_pos rfl]
      unfold chX insK
      simp
    · rw [if_neg h2, getD_add, if_neg (by omega), chN_get m i (by omega)]
      unfold chX
      rw [if_pos (by omega), if_pos (by omega)]
theorem ch_put (m : Nat) (hW : WF (chN m)) : PutOk (chN m ++ [chE]) ((m : Int) + 1) (m : Nat) (-1) ∧ layN (chN m ++ [chE]) ((m : Int) + 1).toNat ((m : Nat) : Int).toNat ((placeN (ndOf (chN m ++ [chE]) (m : Nat)).kids (-1)).getD 0) = chN (m + 1) := by
  have hcl := chN_len m
  have hl : (chN m ++ [chE]).length = m + 2 := by rw [List.length_append, chN_len]; rfl
  have e1 : ((m : Int) + 1).toNat = m + 1 := by omega
  have g1 : (chN m ++ [chE]).getD (m + 1) n0 = chE := by rw [getD_add, if_pos hcl.symm]
  have g2 : (chN m ++ [chE]).getD m n0 = chX m m := by rw [getD_add, if_neg (by omega), chN_get m m (Nat.le_refl _)]
  have k2 : (chX m m).kids = [] := by unfold chX; simp
  have n1 : ndOf (chN m ++ [chE]) ((m : Int) + 1) = chE := by unfold ndOf; rw [e1]; exact g1
  have n2 : ndOf (chN m ++ [chE]) (m : Nat) = chX m m := by unfold ndOf; rw [Int.toNat_natCast]; exact g2
  have hWx := hW.add (x := chE) rfl rfl
  refine ⟨⟨⟨by omega, by omega⟩, ⟨by omega, by omega⟩, by rw [n2]; rfl, by omega, by rw [n1]; decide, ?_, by rw [n2]; rfl⟩, ?_⟩
  · rw [e1, Int.toNat_natCast]
    intro ha
    have := Anc.fresh hWx (by omega) (by rw [g1]; rfl) ha
    omega
  · rw [n2, k2, e1, Int.toNat_natCast]
    exact chN_succ m
/-- the chain as a tree -/
def chT : Nat → NT
  | 0 => .nil
  | k + 1 => .cons ⟨1, 1, ⟨#[120]⟩, [], ⟨#[]⟩, 0⟩ (chT k) .nil
theorem chT_size : ∀ k, (chT k).size = k
  | 0 => rfl
  | k + 1 => by simp only [chT, NT.size, chT_size k]
theorem chT_deep : ∀ k, deepT (chT k) = k
  | 0 => rfl
  | k + 1 => by simp only [chT, deepT, chT_deep k]; omega
theorem chT_few : ∀ k, FewT (chT k)
  | 0 => trivial
  | k + 1 => ⟨Nat.zero_le _, chT_few k, trivial⟩
theorem chT_TF (m : Nat) : ∀ k, k ≤ m → TF (chN m) ((chN m).getD (m - k) n0).kids (chT k)
  | 0, _ => by
    rw [chN_get m _ (by omega)]
    unfold chX
    rw [if_neg (by omega)]
    exact .nil
  | k + 1, h => by
    rw [chN_get m _ (by omega)]
    unfold chX
    rw [if_pos (by omega)]
    have ih := chT_TF m k (by omega)
    have e : m - (k + 1) + 1 = m - k := by omega
    show TF (chN m) [m - (k + 1) + 1] _
    rw [e]
    have hx : hdOf ((chN m).getD (m - k) n0) = ⟨1, 1, ⟨#[120]⟩, [], ⟨#[]⟩, 0⟩ := by
      rw [chN_get m _ (by omega)]
      unfold hdOf chX
      rw [chS_pos (by omega)]; rfl
    unfold chT
    rw [← hx]
    exact .cons _ _ _ _ ih .nil
theorem chN_up (m i : Nat) (h : i ≤ m) : ((chN m).getD i n0).up = (i : Int) - 1 := by rw [chN_get m i h]; rfl
theorem chN_anc {m : Nat} {N : List ND} (j : Nat) (hN : ∀ i, j < i → i ≤ m → (N.getD i n0).up = (i : Int) - 1) : ∀ k, j + k ≤ m → Anc N (j + k) j
  | 0, _ => Anc.refl j
  | k + 1, h => .step _ (j + k) _ (by rw [hN _ (by omega) (by omega)]; omega) (chN_anc j hN k (by omega))
/-- a node of the chain taken -/
theorem ch_take (m j : Nat) (h0 : 0 < j) (hj : j ≤ m) : TakeOk (chN m) j ∧ (∀ i, i ≤ m → (takeN (chN m) j).getD i n0 = if i = j then { chX m j with up := -1 } else if i = j - 1 then { chX m (j - 1) with kids := [] } else chX m i) := by
  have hcl := chN_len m
  have hup := chN_up m j hj
  refine ⟨⟨⟨by omega, by omega⟩, by show 0 ≤ ((chN m).getD j n0).up; omega⟩, fun i hi => ?_⟩
  rw [takeN_get (u := j - 1) (by omega) (by omega) (by omega), chN_get m j hj, chN_get m (j - 1) (by omega), chN_get m i hi]
  have : delK (chX m (j - 1)).kids j = [] := by
    unfold chX
    simp only
    rw [if_pos (by omega), show j - 1 + 1 = j by omega]
    unfold delK findK
    simp
  rw [this]
theorem ch_back (m j : Nat) (h0 : 0 < j) (hj : j ≤ m) : layN (takeN (chN m) j) j (j - 1) 0 = chN m := by
  have hcl := chN_len m
  have htl := takeN_len (chN m) j
  obtain ⟨_, hg⟩ := ch_take m j h0 hj
  refine nd_ext (by rw [layN_len, htl]) (fun i hi => ?_)
  rw [layN_len, htl] at hi
  have gj := hg j hj
  rw [if_pos rfl] at gj
  have gk := hg (j - 1) (by omega)
  rw [if_neg (by omega), if_pos rfl] at gk
  rw [layN_get (by omega) (by omega), gj, gk, chN_get m i (by omega)]
  by_cases h1 : i = j
  · subst h1
    rw [if_pos rfl]
    show ({ chX m i with up := ((i - 1 : Nat) : Int) } : ND) = chX m i
    unfold chX
    rw [show ((i - 1 : Nat) : Int) = (i : Int) - 1 by omega]
  · rw [if_neg h1]
    by_cases h2 : i = j - 1
    · subst h2
      rw [if_pos rfl]
      show ({ chX m (j - 1) with kids := [j] } : ND) = chX m (j - 1)
      unfold chX
      rw [if_pos (by omega), show j - 1 + 1 = j by omega]
    · rw [if_neg h2, hg i (by omega), if_neg h1, if_neg h2]
theorem anc_le {N : List ND} (h : ∀ i, (N.getD i n0).up < i) {n top : Nat} (ha : Anc N n top) : top ≤ n := by
  induction ha with
  | refl n => exact Nat.le_refl _
  | step n m top hu ha ih => have := h n; omega
set_option maxHeartbeats 16000000 in
theorem DomRings_walk (n k : Int) (w : World) : Calls Try.prog 5 #[.int .i64 n, .int .i64 k] w fun e w' => e = .returned (.bool true) ∧ RowKit.Below w.heap.size w w' := by
  show Calls Try.prog 5 [Value.int .i64 n, .int .i64 k].toArray w _
  obtain ⟨A, hA⟩ := Int.eq_ofNat_of_zero_le (Int.emod_nonneg n (show ((20 : Nat) : Int) ≠ 0 by decide))
  have hA20 : A < 20 := by have := Int.emod_lt_of_pos n (show (0 : Int) < ((20 : Nat) : Int) by decide); omega
  obtain ⟨m, hm⟩ : ∃ m, m = 2 + A := ⟨_, rfl⟩
  obtain ⟨B, hB⟩ := Int.eq_ofNat_of_zero_le (Int.emod_nonneg k (show ((m - 1 : Nat) : Int) ≠ 0 by omega))
  have hBm : B < m - 1 := by have := Int.emod_lt_of_pos k (show (0 : Int) < ((m - 1 : Nat) : Int) by omega); omega
  obtain ⟨j, hj⟩ : ∃ j, j = 1 + B := ⟨_, rfl⟩
  have hcl := chN_len m
  refine calls_zc (n := 97) (f := 5) (fn := Try.f5) Try.func5 rfl rfl (by simp) ?_
  refine zc_seq ?_
  refine zc_region ?_
  refine zl_pureL rfl ?_
  refine zl_nil ?_
  refine zk_seq ?_
  iterate 2 (refine zc_seq ?_)
  refine zc_region ?_
  refine zl_call (by first | exact want_none | exact want_L rfl) rfl (by decide) rfl known_calls ?_
  rintro _ w1 ⟨rfl, hC1⟩
  refine ⟨_, rfl, ?_⟩
  refine zl_pureL rfl ?_
  refine zl_nil ?_
  refine zk_seq ?_
  refine zc_false rfl ?_
  refine zc_skip ?_
  refine zk_seq ?_
  refine zc_seq ?_
  refine zc_region ?_
  refine zl_call (by first | exact want_none | exact want_L rfl) rfl (by decide) rfl (DF.new hC1) ?_
  rintro _ w2 ⟨p, vl, Q, rfl, hD⟩
  refine ⟨_, rfl, ?_⟩
  rw [← chN_zero] at hD
  refine zl_pureL rfl ?_
  refine zl_nil ?_
  refine zk_seq ?_
  iterate 2 (refine zc_seq ?_)
  refine zc_region ?_
  refine zl_pureL rfl ?_
  refine z_eqPN (by first | exact want_none | exact want_L rfl) (by decide) rfl rfl ?_
  refine zl_nil ?_
  refine zk_seq ?_
  refine zc_false rfl ?_
  refine zc_skip ?_
  refine zk_seq ?_
  refine zc_seq ?_
  refine zc_region ?_
  refine zl_pureL rfl ?_
  refine zl_call (by first | exact want_none | exact want_L rfl) rfl (by decide) rfl (within_calls (n := 20) (by decide) (by decide)) ?_
  rintro _ u1 ⟨rfl, hu⟩
  obtain rfl := hu.symm
  refine ⟨_, rfl, ?_⟩
  rw [hA]
  refine z_add want_none (by decide) rfl rfl (by omega) (by omega) ?_
  refine zl_pureL rfl ?_
  refine zl_nil ?_
  refine zk_seq ?_
  refine zc_seq ?_
  refine zc_region ?_
  refine zl_pureL rfl ?_
  refine zl_nil ?_
  refine zk_seq ?_
  iterate 2 (refine zc_seq ?_)
  refine zc_region ?_
  refine zl_pureL rfl ?_
  refine zl_nil ?_
  refine zk_seq ?_
  refine zc_block ?_
  rw [show (2 : Int) + (A : Nat) = (m : Nat) by omega]
  skip
  refine zc_midBX (ι := Value × List PN) (fun q u => DF w u p q.1 q.2 (chN m)) (fun q => [(1, .int .i64 k), (5, .pointer (some ⟨p, 0, none⟩)), (6, .int .i64 m)]) ?_ ?_
  · refine zc_loopW (ι := Nat × Value × List PN) (fun q u => [(1, .int .i64 k), (5, .pointer (some ⟨p, 0, none⟩)), (6, .int .i64 m), (7, .int .i64 q.1), (8, .int .i64 q.1)])
      (fun q u => q.1 ≤ m ∧ DF w u p q.2.1 q.2.2 (chN q.1)) (fun q u => m - q.1) (0, vl, Q) ⟨Nat.zero_le _, hD⟩ ?_ ?_
    · exact ⟨rfl, rfl, rfl, rfl, rfl, trivial⟩
    rintro ⟨i, vl, Q⟩ u ⟨hi, hD⟩
    dsimp only at hi hD ⊢
    have hli := chN_len i
    by_cases hlt : i < m
    · iterate 2 (refine zc_seq ?_)
      refine zc_region ?_
      iterate 2 (refine zl_pureL rfl ?_)
      refine z_cmpB (r := true) want_none (by decide) rfl rfl rfl (iff_of_true rfl (by omega)) ?_
      refine zl_nil ?_
      refine zk_seq ?_
      refine zc_true rfl ?_
      refine zc_skip ?_
      refine zk_seq ?_
      refine zc_seq ?_
      refine zc_block ?_
      refine zc_seq ?_
      refine zc_region ?_
      refine zl_pureL rfl ?_
      refine zl_call (by first | exact want_none | exact want_L rfl) rfl (by decide) rfl (hD.elem (by omega) 1 ⟨#[120]⟩ (AttrS.nil _) (by decide)) ?_
      rintro _ u2 ⟨rfl, vl2, Q2, hD2, _⟩
      refine ⟨_, rfl, ?_⟩
      obtain ⟨hok, he⟩ := ch_put i hD.wf
      rw [hli, show ((i + 1 : Nat) : Int) = (i : Int) + 1 by omega]
      refine zl_pureL rfl ?_
      refine zl_nil ?_
      refine zk_seq ?_
      iterate 2 (refine zc_seq ?_)
      refine zc_region ?_
      iterate 2 (refine zl_pureL rfl ?_)
      refine z_add want_none (by decide) rfl rfl (by omega) (by omega) ?_
      refine z_cmpB (r := false) want_none (by decide) rfl rfl rfl (iff_of_false Bool.false_ne_true (by omega)) ?_
      iterate 4 (refine zl_pureL rfl ?_)
      refine zl_call (by first | exact want_none | exact want_L rfl) rfl (by decide) rfl (hD2.put (by simp; omega) ((i : Int) + 1) (i : Nat) (-1) (chN (i + 1)) hok he) ?_
      rintro _ u3 ⟨rfl, vl3, Q3, hD3, _⟩
      refine ⟨_, rfl, ?_⟩
      iterate 2 (refine zl_pureL rfl ?_)
      refine zl_nil ?_
      refine zk_seq ?_
      refine zc_false rfl ?_
      refine zc_skip ?_
      refine zk_seq ?_
      refine zc_region ?_
      iterate 2 (refine zl_pureL rfl ?_)
      refine zl_nil ?_
      refine zk_norm_block ?_
      refine zk_seq ?_
      refine zc_region ?_
      refine zl_pureL rfl ?_
      refine z_add want_none (by decide) rfl rfl (by omega) (by omega) ?_
      refine zl_pureL rfl ?_
      refine zl_nil ?_
      exact zk_loopW (i + 1, vl3, Q3) ⟨by omega, hD3⟩ (by show m - (i + 1) < m - i; omega) ⟨rfl, rfl, rfl, get_int rfl (by omega), get_int rfl (by omega), trivial⟩
    · obtain rfl : i = m := by omega
      iterate 2 (refine zc_seq ?_)
      refine zc_region ?_
      iterate 2 (refine zl_pureL rfl ?_)
      refine z_cmpB (r := false) want_none (by decide) rfl rfl rfl (iff_of_false Bool.false_ne_true (by omega)) ?_
      refine zl_nil ?_
      refine zk_seq ?_
      refine zc_false rfl ?_
      refine zc_exit ?_
      iterate 2 (refine zk_exit_then ?_)
      refine zk_exit_block ?_
      exact zk_midX (vl, Q) hD ⟨rfl, rfl, rfl, trivial⟩
  rintro ⟨vl, Q⟩ w3 hD3
  dsimp only at hD3
  have hBig := chN_big m
  have ht : TF (chN m) ((chN m).getD 0 n0).kids (chT m) := by have := chT_TF m m (Nat.le_refl _); rwa [Nat.sub_self] at this
  have hsz := chT_size m
  have hfw := chT_few m
  refine zc_seq ?_
  refine zc_region ?_
  iterate 2 (refine zl_pureL rfl ?_)
  refine z_sub want_none (by decide) rfl rfl (by omega) (by omega) ?_
  rw [show ((m : Nat) : Int) - 1 = ((m - 1 : Nat) : Int) by omega]
  refine zl_call (by first | exact want_none | exact want_L rfl) rfl (by decide) rfl (within_calls (n := m - 1) (by omega) (by omega)) ?_
  rintro _ u1 ⟨rfl, hu⟩
  obtain rfl := hu.symm
  refine ⟨_, rfl, ?_⟩
  rw [hB]
  refine z_add want_none (by decide) rfl rfl (by omega) (by omega) ?_
  refine zl_pureL rfl ?_
  refine zl_nil ?_
  refine zk_seq ?_
  refine zc_seq ?_
  refine zc_region ?_
  refine zl_pureL rfl ?_
  rw [show (1 : Int) + (B : Nat) = (j : Nat) by omega]
  skip
  refine zl_call (by first | exact want_none | exact want_L rfl) rfl (by decide) rfl (hD3.tree (by omega) hBig 0 (by omega) _ ht rfl) ?_
  rintro _ w4 ⟨v4, rfl, hT4, hD4, _⟩
  refine ⟨_, rfl, ?_⟩
  have hW4 := hT4.at'
  have hjn : (ndOf (chN m) (j : Nat)).up = (j : Int) - 1 := chN_up m j (by omega)
  refine zl_pureL rfl ?_
  refine zl_nil ?_
  refine zk_seq ?_
  iterate 2 (refine zc_seq ?_)
  refine zc_region ?_
  iterate 3 (refine zl_pureL rfl ?_)
  refine zl_call (by first | exact want_none | exact want_L rfl) rfl (by decide) rfl (hD4.putNo (by omega) j m (-1) (fun hh => by have := hh.2.2.2.2.1; omega)) ?_
  rintro _ w5 ⟨rfl, vl5, Q5, hD5, hWr5⟩
  refine ⟨_, rfl, ?_⟩
  have hW5 := hW4.wr hD4.is hWr5
  obtain ⟨hok, hg⟩ := ch_take m j (by omega) (by omega)
  have htl := takeN_len (chN m) j
  have hback := ch_back m j (by omega) (by omega)
  have hM : ∃ X, X = takeN (chN m) j := ⟨_, rfl⟩
  obtain ⟨X, hX⟩ := hM
  iterate 3 (refine zl_pureL rfl ?_)
  refine zl_call (by first | exact want_none | exact want_L rfl) rfl (by decide) rfl (hD5.take (by omega) j X hok (by rw [hX]; rfl)) ?_
  rintro _ w6 ⟨rfl, vl6, Q6, hD6, hWr6⟩
  refine ⟨_, rfl, ?_⟩
  have hW6 := hW5.wr hD5.is hWr6
  rw [← hX] at hg htl hback
  have hXj : (X.getD j n0).up = -1 := by rw [hg j (by omega), if_pos rfl]
  have hXu : ∀ i, j < i → i ≤ m → (X.getD i n0).up = (i : Int) - 1 := fun i h1 h2 => by rw [hg i h2, if_neg (by omega), if_neg (by omega)]; rfl
  have hXlt : ∀ i, (X.getD i n0).up < i := fun i => by
    rcases Nat.lt_or_ge m i with h1 | h1
    · rw [List.getD_eq_getElem?_getD, List.getElem?_eq_none (by omega)]; show (-1 : Int) < i; omega
    · rw [hg i h1]; split
      · show (-1 : Int) < i; omega
      · split
        · show ((j - 1 : Nat) : Int) - 1 < i; omega
        · show (i : Int) - 1 < i; omega
  have hancm : Anc X m j := by have := chN_anc j hXu (m - j) (by omega); rwa [show j + (m - j) = m by omega] at this
  iterate 6 (refine zl_pureL rfl ?_)
  refine zl_call (by first | exact want_none | exact want_L rfl) rfl (by decide) rfl (hD6.putNo (by omega) j m (-1) (fun hh => hh.2.2.2.2.2.1 hancm)) ?_
  rintro _ w7 ⟨rfl, vl7, Q7, hD7, hWr7⟩
  refine ⟨_, rfl, ?_⟩
  have hW7 := hW6.wr hD6.is hWr7
  iterate 5 (refine zl_pureL rfl ?_)
  refine zl_call (by first | exact want_none | exact want_L rfl) rfl (by decide) rfl (hD7.putNo (by omega) j j (-1) (fun hh => hh.2.2.2.2.2.1 (Anc.refl _))) ?_
  rintro _ w8 ⟨rfl, vl8, Q8, hD8, hWr8⟩
  refine ⟨_, rfl, ?_⟩
  have hW8 := hW7.wr hD7.is hWr8
  iterate 4 (refine zl_pureL rfl ?_)
  refine zl_call (by first | exact want_none | exact want_L rfl) rfl (by decide) rfl (up_calls hD8.is j) ?_
  rintro _ w9 ⟨rfl, hu⟩
  obtain rfl := hu.symm
  refine ⟨_, rfl, ?_⟩
  rw [show upOf X (j : Nat) = -1 from by unfold upOf; rw [if_pos ⟨by omega, by omega⟩]; exact hXj]
  refine z_cmpB (r := false) (want_L rfl) (by decide) rfl rfl rfl (iff_of_false Bool.false_ne_true (by omega)) ?_
  iterate 4 (refine zl_pureL rfl ?_)
  refine zl_call (by first | exact want_none | exact want_L rfl) rfl (by decide) rfl (hD8.takeNo (by omega) j (fun hh => by have : 0 ≤ (X.getD j n0).up := hh.2; omega)) ?_
  rintro _ w10 ⟨rfl, vl10, Q10, hD10, hWr10⟩
  refine ⟨_, rfl, ?_⟩
  have hW10 := hW8.wr hD8.is hWr10
  have ej : ((j : Int) - 1).toNat = j - 1 := by omega
  have hX1 : ndOf X ((j : Int) - 1) = { chX m (j - 1) with kids := [] } := by
    unfold ndOf; rw [ej, hg _ (by omega), if_neg (by omega), if_pos rfl]
  have hok11 : PutOk X j ((j : Int) - 1) (-1) := by
    refine ⟨⟨by omega, by omega⟩, ⟨by omega, by omega⟩, by rw [hX1]; rfl, by omega, ?_, ?_, by rw [hX1]; rfl⟩
    · show (X.getD j n0).up < 0; omega
    · rw [ej, Int.toNat_natCast]
      intro ha
      have := anc_le hXlt ha; omega
  refine zl_pureL rfl ?_
  refine zl_nil ?_
  refine zk_seq ?_
  refine zc_false rfl ?_
  refine zc_skip ?_
  refine zk_seq ?_
  refine zc_seq ?_
  refine zc_region ?_
  iterate 3 (refine zl_pureL rfl ?_)
  refine z_sub want_none (by decide) rfl rfl (by omega) (by omega) ?_
  refine zl_call (by first | exact want_none | exact want_L rfl) rfl (by decide) rfl (hD10.put (by omega) j ((j : Int) - 1) (-1) (chN m) hok11 (by rw [hX1, ej, Int.toNat_natCast]; exact hback)) ?_
  rintro _ w11 ⟨rfl, vl11, Q11, hD11, hWr11⟩
  refine ⟨_, rfl, ?_⟩
  have hW11 := hW10.wr hD10.is hWr11
  iterate 2 (refine zl_pureL rfl ?_)
  refine zl_call (by first | exact want_none | exact want_L rfl) rfl (by decide) rfl (hD11.tree (by omega) hBig 0 (by omega) _ ht rfl) ?_
  rintro _ w12 ⟨v12, rfl, hT12, hD12, hC12⟩
  refine ⟨_, rfl, ?_⟩
  refine zl_pureL rfl ?_
  refine zl_call (by first | exact want_none | exact want_L rfl) rfl (by decide) rfl (sameR_calls 100 hT12.at' (hW11.no hC12) hfw hfw (by omega) (by omega)) ?_
  rintro _ w13 ⟨q13, rfl, hq13, hC13⟩
  refine ⟨_, rfl, ?_⟩
  obtain rfl := hq13.2 rfl
  have hD13 := hD12.no hC13
  iterate 3 (refine zl_pureL rfl ?_)
  refine zl_call (by first | exact want_none | exact want_L rfl) rfl (by decide) rfl (hD13.tree (by omega) hBig 0 (by omega) _ ht rfl) ?_
  rintro _ w14 ⟨v14, rfl, hT14, hD14, hC14⟩
  refine ⟨_, rfl, ?_⟩
  refine zl_call (by first | exact want_none | exact want_L rfl) rfl (by decide) rfl (deep_calls 100 hT14.at' (by omega) (by omega)) ?_
  rintro _ w15 ⟨rfl, hC15⟩
  refine ⟨_, rfl, ?_⟩
  rw [chT_deep m]
  refine zl_pureL rfl ?_
  refine z_cmpB (r := true) (want_L rfl) (by decide) rfl rfl rfl (iff_of_true rfl (by omega)) ?_
  iterate 2 (refine zl_pureL rfl ?_)
  refine zl_nil ?_
  refine zk_seq ?_
  refine zc_ret ?_
  exact zk_ret1 (.inr rfl) rfl rfl ⟨rfl, (hD14.no hC15).chg.below⟩
end Go.Proofs.Ytjiehalanklapaa.D
