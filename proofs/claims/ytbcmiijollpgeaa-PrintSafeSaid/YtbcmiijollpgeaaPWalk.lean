import Derived.Test.YtbcmiijollpgeaaPSafe
/- What the program's writer does with texts. -/
namespace Go.Proofs.Ytbcmiijollpgeaa.T
open Go Go.Z Go.Proofs
set_option linter.unusedVariables false
abbrev big : Nat := 1000000000000
section
variable {T : TypeId} [hT : IsB T] {w w' : World} {B b : Nat} {l : List UInt8}
theorem RdS.sb {v : Value} {m : Nat} {cs : List Value} (hr : RdS w 9 1 v m cs) (h : Bd T w B b l) (hc : Chg w w' (Sb w B b)) : RdS w' 9 1 v m cs := by
  refine hr.chg hc (fun b' cells hb' hs => ?_)
  rcases hs with rfl | ⟨_, cs', h5⟩
  · obtain ⟨p, v, _, hb, _⟩ := h
    exact hb'.ne hb (Ne.symm hT.ne9) rfl
  · exact hb'.ne h5 (by decide) rfl
theorem map_getE (rs : List (List UInt8)) (i : Nat) (h : i < rs.length) : (rs.map fun r => Value.string (bs r))[i * 1]? = some (.string (bs (rs.getD i []))) := by
  rw [Nat.mul_one, List.getElem?_map, List.getElem?_eq_getElem h, List.getD_eq_getElem?_getD, List.getElem?_eq_getElem h]; rfl
theorem flat_len (rs : List (List UInt8)) (i : Nat) : (rs.take i).flatten.length ≤ rs.flatten.length := by
  have : rs.flatten = (rs.take i).flatten ++ (rs.drop i).flatten := by rw [← List.flatten_append, List.take_append_drop]
  rw [this, List.length_append]; omega
theorem flat_succ (rs : List (List UInt8)) (i : Nat) (h : i < rs.length) : (rs.take (i + 1)).flatten = (rs.take i).flatten ++ rs.getD i [] := by
  rw [List.take_succ_eq_append_getElem h, List.flatten_append, List.getD_eq_getElem?_getD, List.getElem?_eq_getElem h]; simp
set_option maxHeartbeats 2000000 in
theorem wall_calls {v : Value} {rs : List (List UInt8)} (hr : RdS w 9 1 v rs.length (rs.map fun r => .string (bs r))) (h : Bd T w B b l) (hl : l.length + rs.flatten.length ≤ 140737488355328) (hB : B ≤ w.heap.size) (hn : rs.length ≤ 1000) :
    Calls Try.prog 40 [.pointer (some ⟨b, 0, none⟩), v].toArray w fun e w' => e = .returned (.tuple #[]) ∧ Bd T w' B b (l ++ rs.flatten) ∧ Chg w w' (Sb w B b) := by
  have hT0 := hT
  obtain ⟨A, c, rfl, hc⟩ := hr.form
  refine calls_zc (n := 16) (f := 40) (fn := Try.f40) Try.func40 rfl rfl (by simp) ?_
  refine zc_seq ?_
  refine zc_region ?_
  refine zl_pureL rfl ?_
  refine z_len want_none (by decide) rfl ?_
  refine zl_pureL rfl ?_
  refine zl_nil ?_
  refine zk_seq ?_
  refine zc_block ?_
  refine zc_loopW (ι := Nat) (fun i u => [(0, .pointer (some ⟨b, 0, none⟩)), (6, .slice A rs.length c), (7, .int .i64 rs.length), (8, .int .i64 i)])
    (fun i u => i ≤ rs.length ∧ Bd T u B b (l ++ (rs.take i).flatten) ∧ Chg w u (Sb w B b)) (fun i u => rs.length - i) 0 ⟨Nat.zero_le _, by simpa using h, Chg.refl _ _⟩ ?_ ?_
  · exact ⟨rfl, rfl, rfl, rfl, trivial⟩
  rintro i u ⟨hi, hB1, hC⟩
  have hs1 := hC.size
  by_cases hlt : i < rs.length
  · have hfl := flat_len rs (i + 1)
    rw [flat_succ rs i hlt, List.length_append] at hfl
    obtain ⟨b1, o1, c1, hv, _, hcell⟩ := (RdS.sb hr h hC).some (by omega)
    cases hv
    have hc0 := hcell _ _ (map_getE rs i hlt)
    refine zc_seq ?_
    refine zc_region ?_
    refine z_cmpB (r := true) want_none (by decide) rfl rfl rfl (iff_of_true rfl (by omega)) ?_
    refine zl_nil ?_
    refine zk_seq ?_
    refine zc_seq ?_
    refine zc_true rfl ?_
    refine zc_skip ?_
    refine zk_seq ?_
    refine zc_seq ?_
    refine zc_block ?_
    refine zc_seq ?_
    refine zc_region ?_
    refine z_ia want_none (by decide) rfl rfl (by omega) (by omega) ?_
    refine z_load1 want_none (by decide) rfl (by assumption) ?_
    refine zl_pureL rfl ?_
    refine zl_nil ?_
    refine zk_seq ?_
    refine zc_region ?_
    iterate 2 (refine zl_pureL rfl ?_)
    refine zl_call (by first | exact want_none | exact want_L rfl) rfl (by decide) rfl (ws_calls (rs.getD i []) hB1 (by rw [List.length_append]; omega) (by omega)) ?_
    rintro _ u2 ⟨rfl, hB2, hC2⟩
    refine ⟨_, rfl, ?_⟩
    rw [List.append_assoc, ← flat_succ rs i hlt] at hB2
    refine zl_nil ?_
    refine zk_norm_block ?_
    refine zk_seq ?_
    refine zc_region ?_
    refine z_add want_none (by decide) rfl rfl (by omega) (by omega) ?_
    refine zl_pureL rfl ?_
    refine zl_nil ?_
    exact zk_loopW (i + 1) ⟨by omega, hB2, Sb.trans hC hC2⟩ (by omega) ⟨rfl, rfl, rfl, get_int rfl (by simp), trivial⟩
  · obtain rfl : i = rs.length := by omega
    rw [List.take_length] at hB1
    refine zc_seq ?_
    refine zc_region ?_
    refine z_cmpB (r := false) want_none (by decide) rfl rfl rfl (iff_of_false Bool.false_ne_true (by omega)) ?_
    refine zl_nil ?_
    refine zk_seq ?_
    refine zc_seq ?_
    refine zc_false rfl ?_
    refine zc_exit ?_
    iterate 2 (refine zk_exit_then ?_)
    refine zk_exit_block ?_
    exact zk_ret0 (.inl rfl) rfl ⟨rfl, hB1, hC⟩
end
theorem slice_cut {l : List UInt8} {f p : Nat} (h1 : f ≤ p) (h2 : p ≤ l.length) (n : Nat) (h3 : p + n ≤ l.length) : (l.drop f).take (p - f) ++ (l.drop p).take n = (l.drop f).take (p + n - f) := by
  have : l.drop p = (l.drop f).drop (p - f) := by rw [List.drop_drop]; congr 1; omega
  rw [this, ← List.take_add]; congr 1; omega
set_option maxHeartbeats 8000000 in
theorem safe_calls {w : World} (l : List UInt8) (v : Bool) (hl : l.length ≤ big) : Calls Try.prog 27 [.string (bs l), .bool v].toArray w fun e w' => e = .returned (.string (bs (safeN v l))) ∧ Chg w w' No := by
  have hbig : big = 1000000000000 := rfl
  rw [hbig] at hl
  have hsl := safe_len v l
  refine calls_zc (n := 48) (f := 27) (fn := Try.f27) Try.func27 rfl rfl (by simp) ?_
  refine zc_seq ?_
  refine zc_region ?_
  refine zl_pureL rfl ?_
  refine zl_nil ?_
  refine zk_seq ?_
  refine zc_seq ?_
  refine zc_region ?_
  refine z_alloc (by first | exact want_none | exact want_L rfl) (by decide) (fun w1 b1 hN1 => ?_)
  refine zl_nil ?_
  refine zk_seq ?_
  refine zc_seq ?_
  refine zc_region ?_
  refine zl_pureL rfl ?_
  refine zl_nil ?_
  refine zk_seq ?_
  iterate 2 (refine zc_seq ?_)
  refine zc_region ?_
  refine zl_pureL rfl ?_
  refine z_range (by first | exact want_none | exact want_L rfl) (by decide) rfl (fun w2 k hk hI hC2 => ?_)
  have hb1 : w.heap.size = b1 := hN1.at_.symm
  have hk1 : w1.heap.size = k := hk.symm
  have hlt1 : b1 < w1.heap.size := hN1.blk.lt
  have hltk : k < w2.heap.size := (Array.getElem?_eq_some_iff.1 hI).1
  have hB0 : Bd 56 w2 (k + 1) b1 [] := (Bd.fresh hN1.blk).no hC2
  refine zl_nil ?_
  refine zk_seq ?_
  refine zc_block ?_
  refine zc_loopW (ι := Nat × Nat × List UInt8) (fun q u => [(0, .string (bs l)), (1, .bool v), (5, .pointer (some ⟨b1, 0, none⟩)), (6, .int .i64 q.2.1), (12, .pointer (some ⟨k, 0, none⟩))])
    (fun q u => q.1 ≤ l.length ∧ q.2.1 ≤ q.1 ∧ It u k l q.1 ∧ Bd 56 u (k + 1) b1 q.2.2 ∧ Chg w u No ∧ k + 1 ≤ u.heap.size ∧ q.2.2 ++ (l.drop q.2.1).take (q.1 - q.2.1) ++ safeN v (l.drop q.1) = safeN v l) (fun q u => l.length - q.1) (0, 0, []) ⟨Nat.zero_le _, Nat.zero_le _, hI, hB0, hN1.chg.no hC2, hltk, by simp⟩ ?_ ?_
  · exact ⟨rfl, rfl, rfl, rfl, rfl, trivial⟩
  rintro ⟨p, f, out⟩ u ⟨hp, hf, hI, hB, hC, hks, hd⟩
  dsimp only at hp hf hI hB hC hks hd ⊢
  have hol : out.length ≤ 6 * l.length := by
    have := congrArg List.length hd
    simp only [List.length_append] at this; omega
  by_cases hlt : p < l.length
  · obtain ⟨r, n, hdec, hr, hn1, hn2, hcases⟩ := safe_law v l p hlt
    refine zc_seq ?_
    refine zc_region ?_
    refine z_next (by first | exact want_none | exact want_L rfl) (by decide) rfl hI hlt (fun u1 hI1 hC1 => ?_)
    rw [hdec] at hI1 ⊢
    dsimp only at hI1 ⊢
    have hB1 : Bd 56 u1 (k + 1) b1 out := hB.chg hC1 (fun h => by omega) (fun j _ hj h => by omega)
    have hCu : Chg w u1 No := hC.trans hC1 (fun i hi he => by subst he; omega)
    have hs1 := hC1.size
    refine zl_pureL rfl ?_
    refine zl_nil ?_
    refine zk_seq ?_
    refine zc_seq ?_
    refine zc_true rfl ?_
    refine zc_skip ?_
    refine zk_seq ?_
    refine zc_block ?_
    refine zc_seq ?_
    refine zc_region ?_
    iterate 4 (refine zl_pureL rfl ?_)
    refine zl_nil ?_
    refine zk_seq ?_
    refine zc_seq ?_
    refine zc_region ?_
    iterate 2 (refine zl_pureL rfl ?_)
    refine zl_nil ?_
    refine zk_seq ?_
    iterate 2 (refine zc_seq ?_)
    refine zc_region ?_
    refine zl_pureL rfl ?_
    refine zl_nil ?_
    refine zk_seq ?_
    refine zc_block ?_
    refine zc_seq ?_
    refine zc_region ?_
    rcases hcases with ⟨rfl, rfl, hs⟩ | ⟨rfl, rfl, hs⟩ | ⟨rfl, rfl, hs⟩ | ⟨rfl, rfl, hs⟩ | ⟨rfl, rfl, rfl, hs⟩ | ⟨rfl, rfl, hs⟩ | ⟨h1, h2, h3, h4, h5, h6, hs⟩
    · refine z_cmpB (r := true) want_none (by decide) rfl rfl rfl (iff_of_true rfl (by omega)) ?_
      refine zl_pureL rfl ?_
      refine zl_nil ?_
      refine zk_seq ?_
      refine zc_true rfl ?_
      refine zc_region ?_
      refine zl_pureL rfl ?_
      refine zl_nil ?_
      refine zk_norm_block ?_
      refine zk_seq ?_
      refine zc_seq ?_
      refine zc_region ?_
      refine zl_pureL rfl ?_
      refine z_neS (by first | exact want_none | exact want_L rfl) (by decide) rfl rfl (fun hc => ?_) (fun hc => ?_)
      · refine zl_nil ?_
        refine zk_seq ?_
        refine zc_true rfl ?_
        refine zc_seq ?_
        refine zc_region ?_
        iterate 3 (refine zl_pureL rfl ?_)
        refine z_cutN f p (by first | exact want_none | exact want_L rfl) (by decide) rfl rfl rfl rfl rfl (by omega) (by omega) ?_
        refine zl_pureL rfl ?_
        refine z_bsE [.string (bs ((l.drop f).take (p - f))), .string (bs amp)] (by first | exact want_none | exact want_L rfl) (by decide) rfl (by decide) (by decide) (by kernel_rfl) (fun u2 b2 hN2 => ?_)
        have hB2 := hB1.no hN2.chg
        have hr2 : RdS u2 9 1 (.slice (some ⟨b2, 0, none⟩) 2 2) [(l.drop f).take (p - f), amp].length ([(l.drop f).take (p - f), amp].map fun r => Value.string (bs r)) := RdS.new hN2 rfl (fun u hu => by simp only [List.map_cons, List.map_nil, List.mem_cons, List.not_mem_nil, or_false] at hu; rcases hu with rfl | rfl <;> rfl)
        have hs2 := hN2.chg.size
        have hfl : [(l.drop f).take (p - f), amp].flatten.length ≤ l.length + 6 := by
          have : (amp : List UInt8).length ≤ 6 := by decide
          simp only [List.flatten_cons, List.flatten_nil, List.append_nil, List.length_append, List.length_take, List.length_drop]
          omega
        skip
        refine zl_call (by first | exact want_none | exact want_L rfl) rfl (by decide) rfl (wall_calls hr2 hB2 (by omega) (by omega) (by simp)) ?_
        rintro _ u3 ⟨rfl, hB3, hC3⟩
        refine ⟨_, rfl, ?_⟩
        have hs3 := hC3.size
        have hI3 : It u3 k l (p + 1) := (hC3.same k (by omega) (fun h => by rcases h with h | ⟨h, _⟩ <;> omega)).trans ((hN2.chg.same k (by omega) id).trans hI1)
        have hCu3 : Chg w u3 No := Chg.liftS (hCu.no hN2.chg) (by omega) (by omega) hC3
        refine zl_nil ?_
        refine zk_seq ?_
        refine zc_region ?_
        iterate 2 (refine zl_pureL rfl ?_)
        refine z_add want_none (by decide) rfl rfl (by omega) (by omega) ?_
        refine zl_pureL rfl ?_
        refine zl_nil ?_
        refine zk_norm_block ?_
        refine zk_loopW (p + 1, p + 1, out ++ [(l.drop f).take (p - f), amp].flatten) ⟨by omega, Nat.le_refl _, hI3, hB3, hCu3, by omega, ?_⟩ (by show l.length - (p + 1) < l.length - p; omega) ⟨rfl, rfl, rfl, get_int rfl (by simp), rfl, trivial⟩
        rw [hs] at hd
        rw [← hd]
        simp
      · exact absurd hc (by decide)
    · refine z_cmpB (r := false) want_none (by decide) rfl rfl rfl (iff_of_false Bool.false_ne_true (by omega)) ?_
      refine zl_pureL rfl ?_
      refine zl_nil ?_
      refine zk_seq ?_
      refine zc_false rfl ?_
      refine zc_seq ?_
      refine zc_region ?_
      refine z_cmpB (r := true) want_none (by decide) rfl rfl rfl (iff_of_true rfl (by omega)) ?_
      refine zl_pureL rfl ?_
      refine zl_nil ?_
      refine zk_seq ?_
      refine zc_true rfl ?_
      refine zc_region ?_
      refine zl_pureL rfl ?_
      refine zl_nil ?_
      refine zk_norm_block ?_
      refine zk_seq ?_
      refine zc_seq ?_
      refine zc_region ?_
      refine zl_pureL rfl ?_
      refine z_neS (by first | exact want_none | exact want_L rfl) (by decide) rfl rfl (fun hc => ?_) (fun hc => ?_)
      · refine zl_nil ?_
        refine zk_seq ?_
        refine zc_true rfl ?_
        refine zc_seq ?_
        refine zc_region ?_
        iterate 3 (refine zl_pureL rfl ?_)
        refine z_cutN f p (by first | exact want_none | exact want_L rfl) (by decide) rfl rfl rfl rfl rfl (by omega) (by omega) ?_
        refine zl_pureL rfl ?_
        refine z_bsE [.string (bs ((l.drop f).take (p - f))), .string (bs lt4)] (by first | exact want_none | exact want_L rfl) (by decide) rfl (by decide) (by decide) (by kernel_rfl) (fun u2 b2 hN2 => ?_)
        have hB2 := hB1.no hN2.chg
        have hr2 : RdS u2 9 1 (.slice (some ⟨b2, 0, none⟩) 2 2) [(l.drop f).take (p - f), lt4].length ([(l.drop f).take (p - f), lt4].map fun r => Value.string (bs r)) := RdS.new hN2 rfl (fun u hu => by simp only [List.map_cons, List.map_nil, List.mem_cons, List.not_mem_nil, or_false] at hu; rcases hu with rfl | rfl <;> rfl)
        have hs2 := hN2.chg.size
        have hfl : [(l.drop f).take (p - f), lt4].flatten.length ≤ l.length + 6 := by
          have : (lt4 : List UInt8).length ≤ 6 := by decide
          simp only [List.flatten_cons, List.flatten_nil, List.append_nil, List.length_append, List.length_take, List.length_drop]
          omega
        skip
        refine zl_call (by first | exact want_none | exact want_L rfl) rfl (by decide) rfl (wall_calls hr2 hB2 (by omega) (by omega) (by simp)) ?_
        rintro _ u3 ⟨rfl, hB3, hC3⟩
        refine ⟨_, rfl, ?_⟩
        have hs3 := hC3.size
        have hI3 : It u3 k l (p + 1) := (hC3.same k (by omega) (fun h => by rcases h with h | ⟨h, _⟩ <;> omega)).trans ((hN2.chg.same k (by omega) id).trans hI1)
        have hCu3 : Chg w u3 No := Chg.liftS (hCu.no hN2.chg) (by omega) (by omega) hC3
        refine zl_nil ?_
        refine zk_seq ?_
        refine zc_region ?_
        iterate 2 (refine zl_pureL rfl ?_)
        refine z_add want_none (by decide) rfl rfl (by omega) (by omega) ?_
        refine zl_pureL rfl ?_
        refine zl_nil ?_
        refine zk_norm_block ?_
        refine zk_loopW (p + 1, p + 1, out ++ [(l.drop f).take (p - f), lt4].flatten) ⟨by omega, Nat.le_refl _, hI3, hB3, hCu3, by omega, ?_⟩ (by show l.length - (p + 1) < l.length - p; omega) ⟨rfl, rfl, rfl, get_int rfl (by simp), rfl, trivial⟩
        rw [hs] at hd
        rw [← hd]
        simp
      · exact absurd hc (by decide)
    · refine z_cmpB (r := false) want_none (by decide) rfl rfl rfl (iff_of_false Bool.false_ne_true (by omega)) ?_
      refine zl_pureL rfl ?_
      refine zl_nil ?_
      refine zk_seq ?_
      refine zc_false rfl ?_
      refine zc_seq ?_
      refine zc_region ?_
      refine z_cmpB (r := false) want_none (by decide) rfl rfl rfl (iff_of_false Bool.false_ne_true (by omega)) ?_
      refine zl_pureL rfl ?_
      refine zl_nil ?_
      refine zk_seq ?_
      refine zc_false rfl ?_
      refine zc_seq ?_
      refine zc_region ?_
      refine z_cmpB (r := true) want_none (by decide) rfl rfl rfl (iff_of_true rfl (by omega)) ?_
      refine zl_pureL rfl ?_
      refine zl_nil ?_
      refine zk_seq ?_
      refine zc_true rfl ?_
      refine zc_region ?_
      refine zl_pureL rfl ?_
      refine zl_nil ?_
      refine zk_norm_block ?_
      refine zk_seq ?_
      refine zc_seq ?_
      refine zc_region ?_
      refine zl_pureL rfl ?_
      refine z_neS (by first | exact want_none | exact want_L rfl) (by decide) rfl rfl (fun hc => ?_) (fun hc => ?_)
      · refine zl_nil ?_
        refine zk_seq ?_
        refine zc_true rfl ?_
        refine zc_seq ?_
        refine zc_region ?_
        iterate 3 (refine zl_pureL rfl ?_)
        refine z_cutN f p (by first | exact want_none | exact want_L rfl) (by decide) rfl rfl rfl rfl rfl (by omega) (by omega) ?_
        refine zl_pureL rfl ?_
        refine z_bsE [.string (bs ((l.drop f).take (p - f))), .string (bs gt4)] (by first | exact want_none | exact want_L rfl) (by decide) rfl (by decide) (by decide) (by kernel_rfl) (fun u2 b2 hN2 => ?_)
        have hB2 := hB1.no hN2.chg
        have hr2 : RdS u2 9 1 (.slice (some ⟨b2, 0, none⟩) 2 2) [(l.drop f).take (p - f), gt4].length ([(l.drop f).take (p - f), gt4].map fun r => Value.string (bs r)) := RdS.new hN2 rfl (fun u hu => by simp only [List.map_cons, List.map_nil, List.mem_cons, List.not_mem_nil, or_false] at hu; rcases hu with rfl | rfl <;> rfl)
        have hs2 := hN2.chg.size
        have hfl : [(l.drop f).take (p - f), gt4].flatten.length ≤ l.length + 6 := by
          have : (gt4 : List UInt8).length ≤ 6 := by decide
          simp only [List.flatten_cons, List.flatten_nil, List.append_nil, List.length_append, List.length_take, List.length_drop]
          omega
        skip
        refine zl_call (by first | exact want_none | exact want_L rfl) rfl (by decide) rfl (wall_calls hr2 hB2 (by omega) (by omega) (by simp)) ?_
        rintro _ u3 ⟨rfl, hB3, hC3⟩
        refine ⟨_, rfl, ?_⟩
        have hs3 := hC3.size
        have hI3 : It u3 k l (p + 1) := (hC3.same k (by omega) (fun h => by rcases h with h | ⟨h, _⟩ <;> omega)).trans ((hN2.chg.same k (by omega) id).trans hI1)
        have hCu3 : Chg w u3 No := Chg.liftS (hCu.no hN2.chg) (by omega) (by omega) hC3
        refine zl_nil ?_
        refine zk_seq ?_
        refine zc_region ?_
        iterate 2 (refine zl_pureL rfl ?_)
        refine z_add want_none (by decide) rfl rfl (by omega) (by omega) ?_
        refine zl_pureL rfl ?_
        refine zl_nil ?_
        refine zk_norm_block ?_
        refine zk_loopW (p + 1, p + 1, out ++ [(l.drop f).take (p - f), gt4].flatten) ⟨by omega, Nat.le_refl _, hI3, hB3, hCu3, by omega, ?_⟩ (by show l.length - (p + 1) < l.length - p; omega) ⟨rfl, rfl, rfl, get_int rfl (by simp), rfl, trivial⟩
        rw [hs] at hd
        rw [← hd]
        simp
      · exact absurd hc (by decide)
    · refine z_cmpB (r := false) want_none (by decide) rfl rfl rfl (iff_of_false Bool.false_ne_true (by omega)) ?_
      refine zl_pureL rfl ?_
      refine zl_nil ?_
      refine zk_seq ?_
      refine zc_false rfl ?_
      refine zc_seq ?_
      refine zc_region ?_
      refine z_cmpB (r := false) want_none (by decide) rfl rfl rfl (iff_of_false Bool.false_ne_true (by omega)) ?_
      refine zl_pureL rfl ?_
      refine zl_nil ?_
      refine zk_seq ?_
      refine zc_false rfl ?_
      refine zc_seq ?_
      refine zc_region ?_
      refine z_cmpB (r := false) want_none (by decide) rfl rfl rfl (iff_of_false Bool.false_ne_true (by omega)) ?_
      refine zl_pureL rfl ?_
      refine zl_nil ?_
      refine zk_seq ?_
      refine zc_false rfl ?_
      refine zc_seq ?_
      refine zc_region ?_
      refine z_cmpB (r := true) want_none (by decide) rfl rfl rfl (iff_of_true rfl (by omega)) ?_
      refine zl_pureL rfl ?_
      refine zl_nil ?_
      refine zk_seq ?_
      refine zc_true rfl ?_
      refine zc_region ?_
      refine zl_pureL rfl ?_
      refine zl_nil ?_
      refine zk_norm_block ?_
      refine zk_seq ?_
      refine zc_seq ?_
      refine zc_region ?_
      refine zl_pureL rfl ?_
      refine z_neS (by first | exact want_none | exact want_L rfl) (by decide) rfl rfl (fun hc => ?_) (fun hc => ?_)
      · refine zl_nil ?_
        refine zk_seq ?_
        refine zc_true rfl ?_
        refine zc_seq ?_
        refine zc_region ?_
        iterate 3 (refine zl_pureL rfl ?_)
        refine z_cutN f p (by first | exact want_none | exact want_L rfl) (by decide) rfl rfl rfl rfl rfl (by omega) (by omega) ?_
        refine zl_pureL rfl ?_
        refine z_bsE [.string (bs ((l.drop f).take (p - f))), .string (bs cr5)] (by first | exact want_none | exact want_L rfl) (by decide) rfl (by decide) (by decide) (by kernel_rfl) (fun u2 b2 hN2 => ?_)
        have hB2 := hB1.no hN2.chg
        have hr2 : RdS u2 9 1 (.slice (some ⟨b2, 0, none⟩) 2 2) [(l.drop f).take (p - f), cr5].length ([(l.drop f).take (p - f), cr5].map fun r => Value.string (bs r)) := RdS.new hN2 rfl (fun u hu => by simp only [List.map_cons, List.map_nil, List.mem_cons, List.not_mem_nil, or_false] at hu; rcases hu with rfl | rfl <;> rfl)
        have hs2 := hN2.chg.size
        have hfl : [(l.drop f).take (p - f), cr5].flatten.length ≤ l.length + 6 := by
          have : (cr5 : List UInt8).length ≤ 6 := by decide
          simp only [List.flatten_cons, List.flatten_nil, List.append_nil, List.length_append, List.length_take, List.length_drop]
          omega
        skip
        refine zl_call (by first | exact want_none | exact want_L rfl) rfl (by decide) rfl (wall_calls hr2 hB2 (by omega) (by omega) (by simp)) ?_
        rintro _ u3 ⟨rfl, hB3, hC3⟩
        refine ⟨_, rfl, ?_⟩
        have hs3 := hC3.size
        have hI3 : It u3 k l (p + 1) := (hC3.same k (by omega) (fun h => by rcases h with h | ⟨h, _⟩ <;> omega)).trans ((hN2.chg.same k (by omega) id).trans hI1)
        have hCu3 : Chg w u3 No := Chg.liftS (hCu.no hN2.chg) (by omega) (by omega) hC3
        refine zl_nil ?_
        refine zk_seq ?_
        refine zc_region ?_
        iterate 2 (refine zl_pureL rfl ?_)
        refine z_add want_none (by decide) rfl rfl (by omega) (by omega) ?_
        refine zl_pureL rfl ?_
        refine zl_nil ?_
        refine zk_norm_block ?_
        refine zk_loopW (p + 1, p + 1, out ++ [(l.drop f).take (p - f), cr5].flatten) ⟨by omega, Nat.le_refl _, hI3, hB3, hCu3, by omega, ?_⟩ (by show l.length - (p + 1) < l.length - p; omega) ⟨rfl, rfl, rfl, get_int rfl (by simp), rfl, trivial⟩
        rw [hs] at hd
        rw [← hd]
        simp
      · exact absurd hc (by decide)
    · refine z_cmpB (r := false) want_none (by decide) rfl rfl rfl (iff_of_false Bool.false_ne_true (by omega)) ?_
      refine zl_pureL rfl ?_
      refine zl_nil ?_
      refine zk_seq ?_
      refine zc_false rfl ?_
      refine zc_seq ?_
      refine zc_region ?_
      refine z_cmpB (r := false) want_none (by decide) rfl rfl rfl (iff_of_false Bool.false_ne_true (by omega)) ?_
      refine zl_pureL rfl ?_
      refine zl_nil ?_
      refine zk_seq ?_
      refine zc_false rfl ?_
      refine zc_seq ?_
      refine zc_region ?_
      refine z_cmpB (r := false) want_none (by decide) rfl rfl rfl (iff_of_false Bool.false_ne_true (by omega)) ?_
      refine zl_pureL rfl ?_
      refine zl_nil ?_
      refine zk_seq ?_
      refine zc_false rfl ?_
      refine zc_seq ?_
      refine zc_region ?_
      refine z_cmpB (r := false) want_none (by decide) rfl rfl rfl (iff_of_false Bool.false_ne_true (by omega)) ?_
      refine zl_pureL rfl ?_
      refine zl_nil ?_
      refine zk_seq ?_
      refine zc_false rfl ?_
      refine zc_seq ?_
      refine zc_region ?_
      refine z_cmpB (r := true) want_none (by decide) rfl rfl rfl (iff_of_true rfl (by omega)) ?_
      refine zl_pureL rfl ?_
      refine zl_nil ?_
      refine zk_seq ?_
      refine zc_true rfl ?_
      refine zc_seq ?_
      refine zc_region ?_
      refine zl_pureL rfl ?_
      refine zl_nil ?_
      refine zk_seq ?_
      refine zc_true rfl ?_
      refine zc_region ?_
      refine zl_pureL rfl ?_
      refine zl_nil ?_
      refine zk_norm_block ?_
      refine zk_seq ?_
      refine zc_seq ?_
      refine zc_region ?_
      refine zl_pureL rfl ?_
      refine z_neS (by first | exact want_none | exact want_L rfl) (by decide) rfl rfl (fun hc => ?_) (fun hc => ?_)
      · refine zl_nil ?_
        refine zk_seq ?_
        refine zc_true rfl ?_
        refine zc_seq ?_
        refine zc_region ?_
        iterate 3 (refine zl_pureL rfl ?_)
        refine z_cutN f p (by first | exact want_none | exact want_L rfl) (by decide) rfl rfl rfl rfl rfl (by omega) (by omega) ?_
        refine zl_pureL rfl ?_
        refine z_bsE [.string (bs ((l.drop f).take (p - f))), .string (bs quo)] (by first | exact want_none | exact want_L rfl) (by decide) rfl (by decide) (by decide) (by kernel_rfl) (fun u2 b2 hN2 => ?_)
        have hB2 := hB1.no hN2.chg
        have hr2 : RdS u2 9 1 (.slice (some ⟨b2, 0, none⟩) 2 2) [(l.drop f).take (p - f), quo].length ([(l.drop f).take (p - f), quo].map fun r => Value.string (bs r)) := RdS.new hN2 rfl (fun u hu => by simp only [List.map_cons, List.map_nil, List.mem_cons, List.not_mem_nil, or_false] at hu; rcases hu with rfl | rfl <;> rfl)
        have hs2 := hN2.chg.size
        have hfl : [(l.drop f).take (p - f), quo].flatten.length ≤ l.length + 6 := by
          have : (quo : List UInt8).length ≤ 6 := by decide
          simp only [List.flatten_cons, List.flatten_nil, List.append_nil, List.length_append, List.length_take, List.length_drop]
          omega
        skip
        refine zl_call (by first | exact want_none | exact want_L rfl) rfl (by decide) rfl (wall_calls hr2 hB2 (by omega) (by omega) (by simp)) ?_
        rintro _ u3 ⟨rfl, hB3, hC3⟩
        refine ⟨_, rfl, ?_⟩
        have hs3 := hC3.size
        have hI3 : It u3 k l (p + 1) := (hC3.same k (by omega) (fun h => by rcases h with h | ⟨h, _⟩ <;> omega)).trans ((hN2.chg.same k (by omega) id).trans hI1)
        have hCu3 : Chg w u3 No := Chg.liftS (hCu.no hN2.chg) (by omega) (by omega) hC3
        refine zl_nil ?_
        refine zk_seq ?_
        refine zc_region ?_
        iterate 2 (refine zl_pureL rfl ?_)
        refine z_add want_none (by decide) rfl rfl (by omega) (by omega) ?_
        refine zl_pureL rfl ?_
        refine zl_nil ?_
        refine zk_norm_block ?_
        refine zk_loopW (p + 1, p + 1, out ++ [(l.drop f).take (p - f), quo].flatten) ⟨by omega, Nat.le_refl _, hI3, hB3, hCu3, by omega, ?_⟩ (by show l.length - (p + 1) < l.length - p; omega) ⟨rfl, rfl, rfl, get_int rfl (by simp), rfl, trivial⟩
        rw [hs] at hd
        rw [← hd]
        simp
      · exact absurd hc (by decide)
    · refine z_cmpB (r := false) want_none (by decide) rfl rfl rfl (iff_of_false Bool.false_ne_true (by omega)) ?_
      refine zl_pureL rfl ?_
      refine zl_nil ?_
      refine zk_seq ?_
      refine zc_false rfl ?_
      refine zc_seq ?_
      refine zc_region ?_
      refine z_cmpB (r := false) want_none (by decide) rfl rfl rfl (iff_of_false Bool.false_ne_true (by omega)) ?_
      refine zl_pureL rfl ?_
      refine zl_nil ?_
      refine zk_seq ?_
      refine zc_false rfl ?_
      refine zc_seq ?_
      refine zc_region ?_
      refine z_cmpB (r := false) want_none (by decide) rfl rfl rfl (iff_of_false Bool.false_ne_true (by omega)) ?_
      refine zl_pureL rfl ?_
      refine zl_nil ?_
      refine zk_seq ?_
      refine zc_false rfl ?_
      refine zc_seq ?_
      refine zc_region ?_
      refine z_cmpB (r := false) want_none (by decide) rfl rfl rfl (iff_of_false Bool.false_ne_true (by omega)) ?_
      refine zl_pureL rfl ?_
      refine zl_nil ?_
      refine zk_seq ?_
      refine zc_false rfl ?_
      refine zc_seq ?_
      refine zc_region ?_
      refine z_cmpB (r := false) want_none (by decide) rfl rfl rfl (iff_of_false Bool.false_ne_true (by omega)) ?_
      refine zl_pureL rfl ?_
      refine zl_nil ?_
      refine zk_seq ?_
      refine zc_false rfl ?_
      refine zc_seq ?_
      refine zc_region ?_
      refine z_cmpB (r := true) want_none (by decide) rfl rfl rfl (iff_of_true rfl (by omega)) ?_
      refine zl_pureL rfl ?_
      refine zl_nil ?_
      refine zk_seq ?_
      refine zc_true rfl ?_
      refine zc_region ?_
      iterate 2 (refine zl_pureL rfl ?_)
      refine zl_nil ?_
      refine zk_norm_block ?_
      refine zk_seq ?_
      refine zc_seq ?_
      refine zc_region ?_
      refine zl_pureL rfl ?_
      refine z_neS (by first | exact want_none | exact want_L rfl) (by decide) rfl rfl (fun hc => ?_) (fun hc => ?_)
      · refine zl_nil ?_
        refine zk_seq ?_
        refine zc_true rfl ?_
        refine zc_seq ?_
        refine zc_region ?_
        iterate 3 (refine zl_pureL rfl ?_)
        refine z_cutN f p (by first | exact want_none | exact want_L rfl) (by decide) rfl rfl rfl rfl rfl (by omega) (by omega) ?_
        refine zl_pureL rfl ?_
        refine z_bsE [.string (bs ((l.drop f).take (p - f))), .string (bs nbs)] (by first | exact want_none | exact want_L rfl) (by decide) rfl (by decide) (by decide) (by kernel_rfl) (fun u2 b2 hN2 => ?_)
        have hB2 := hB1.no hN2.chg
        have hr2 : RdS u2 9 1 (.slice (some ⟨b2, 0, none⟩) 2 2) [(l.drop f).take (p - f), nbs].length ([(l.drop f).take (p - f), nbs].map fun r => Value.string (bs r)) := RdS.new hN2 rfl (fun u hu => by simp only [List.map_cons, List.map_nil, List.mem_cons, List.not_mem_nil, or_false] at hu; rcases hu with rfl | rfl <;> rfl)
        have hs2 := hN2.chg.size
        have hfl : [(l.drop f).take (p - f), nbs].flatten.length ≤ l.length + 6 := by
          have : (nbs : List UInt8).length ≤ 6 := by decide
          simp only [List.flatten_cons, List.flatten_nil, List.append_nil, List.length_append, List.length_take, List.length_drop]
          omega
        skip
        refine zl_call (by first | exact want_none | exact want_L rfl) rfl (by decide) rfl (wall_calls hr2 hB2 (by omega) (by omega) (by simp)) ?_
        rintro _ u3 ⟨rfl, hB3, hC3⟩
        refine ⟨_, rfl, ?_⟩
        have hs3 := hC3.size
        have hI3 : It u3 k l (p + 2) := (hC3.same k (by omega) (fun h => by rcases h with h | ⟨h, _⟩ <;> omega)).trans ((hN2.chg.same k (by omega) id).trans hI1)
        have hCu3 : Chg w u3 No := Chg.liftS (hCu.no hN2.chg) (by omega) (by omega) hC3
        refine zl_nil ?_
        refine zk_seq ?_
        refine zc_region ?_
        iterate 2 (refine zl_pureL rfl ?_)
        refine z_add want_none (by decide) rfl rfl (by omega) (by omega) ?_
        refine zl_pureL rfl ?_
        refine zl_nil ?_
        refine zk_norm_block ?_
        refine zk_loopW (p + 2, p + 2, out ++ [(l.drop f).take (p - f), nbs].flatten) ⟨by omega, Nat.le_refl _, hI3, hB3, hCu3, by omega, ?_⟩ (by show l.length - (p + 2) < l.length - p; omega) ⟨rfl, rfl, rfl, get_int rfl (by simp), rfl, trivial⟩
        rw [hs] at hd
        rw [← hd]
        simp
      · exact absurd hc (by decide)
    · rw [hs, ← List.append_assoc, List.append_assoc out, slice_cut hf hp n hn2] at hd
      by_cases h34 : r = 34
      · obtain rfl := h5 h34
        subst h34
        refine z_cmpB (r := false) want_none (by decide) rfl rfl rfl (iff_of_false Bool.false_ne_true (by omega)) ?_
        refine zl_pureL rfl ?_
        refine zl_nil ?_
        refine zk_seq ?_
        refine zc_false rfl ?_
        refine zc_seq ?_
        refine zc_region ?_
        refine z_cmpB (r := false) want_none (by decide) rfl rfl rfl (iff_of_false Bool.false_ne_true (by omega)) ?_
        refine zl_pureL rfl ?_
        refine zl_nil ?_
        refine zk_seq ?_
        refine zc_false rfl ?_
        refine zc_seq ?_
        refine zc_region ?_
        refine z_cmpB (r := false) want_none (by decide) rfl rfl rfl (iff_of_false Bool.false_ne_true (by omega)) ?_
        refine zl_pureL rfl ?_
        refine zl_nil ?_
        refine zk_seq ?_
        refine zc_false rfl ?_
        refine zc_seq ?_
        refine zc_region ?_
        refine z_cmpB (r := false) want_none (by decide) rfl rfl rfl (iff_of_false Bool.false_ne_true (by omega)) ?_
        refine zl_pureL rfl ?_
        refine zl_nil ?_
        refine zk_seq ?_
        refine zc_false rfl ?_
        refine zc_seq ?_
        refine zc_region ?_
        refine z_cmpB (r := true) want_none (by decide) rfl rfl rfl (iff_of_true rfl (by omega)) ?_
        refine zl_pureL rfl ?_
        refine zl_nil ?_
        refine zk_seq ?_
        refine zc_true rfl ?_
        refine zc_seq ?_
        refine zc_region ?_
        refine zl_pureL rfl ?_
        refine zl_nil ?_
        refine zk_seq ?_
        refine zc_false rfl ?_
        refine zc_skip ?_
        refine zk_norm_block ?_
        refine zk_seq ?_
        refine zc_seq ?_
        refine zc_region ?_
        refine zl_pureL rfl ?_
        refine z_neS (by first | exact want_none | exact want_L rfl) (by decide) rfl rfl (fun hc => ?_) (fun hc => ?_)
        · exact absurd rfl hc
        · refine zl_nil ?_
          refine zk_seq ?_
          refine zc_false rfl ?_
          refine zc_skip ?_
          refine zk_norm_block ?_
          exact zk_loopW (p + n, f, out) ⟨by omega, by show f ≤ p + n; omega, hI1, hB1, hCu, by omega, hd⟩ (by show l.length - (p + n) < l.length - p; omega) ⟨rfl, rfl, rfl, rfl, rfl, trivial⟩
      · refine z_cmpB (r := false) want_none (by decide) rfl rfl rfl (iff_of_false Bool.false_ne_true (by omega)) ?_
        refine zl_pureL rfl ?_
        refine zl_nil ?_
        refine zk_seq ?_
        refine zc_false rfl ?_
        refine zc_seq ?_
        refine zc_region ?_
        refine z_cmpB (r := false) want_none (by decide) rfl rfl rfl (iff_of_false Bool.false_ne_true (by omega)) ?_
        refine zl_pureL rfl ?_
        refine zl_nil ?_
        refine zk_seq ?_
        refine zc_false rfl ?_
        refine zc_seq ?_
        refine zc_region ?_
        refine z_cmpB (r := false) want_none (by decide) rfl rfl rfl (iff_of_false Bool.false_ne_true (by omega)) ?_
        refine zl_pureL rfl ?_
        refine zl_nil ?_
        refine zk_seq ?_
        refine zc_false rfl ?_
        refine zc_seq ?_
        refine zc_region ?_
        refine z_cmpB (r := false) want_none (by decide) rfl rfl rfl (iff_of_false Bool.false_ne_true (by omega)) ?_
        refine zl_pureL rfl ?_
        refine zl_nil ?_
        refine zk_seq ?_
        refine zc_false rfl ?_
        refine zc_seq ?_
        refine zc_region ?_
        refine z_cmpB (r := false) want_none (by decide) rfl rfl rfl (iff_of_false Bool.false_ne_true (by omega)) ?_
        refine zl_pureL rfl ?_
        refine zl_nil ?_
        refine zk_seq ?_
        refine zc_false rfl ?_
        refine zc_seq ?_
        refine zc_region ?_
        refine z_cmpB (r := false) want_none (by decide) rfl rfl rfl (iff_of_false Bool.false_ne_true (by omega)) ?_
        refine zl_pureL rfl ?_
        refine zl_nil ?_
        refine zk_seq ?_
        refine zc_false rfl ?_
        refine zc_skip ?_
        refine zk_norm_block ?_
        refine zk_seq ?_
        refine zc_seq ?_
        refine zc_region ?_
        refine zl_pureL rfl ?_
        refine z_neS (by first | exact want_none | exact want_L rfl) (by decide) rfl rfl (fun hc => ?_) (fun hc => ?_)
        · exact absurd rfl hc
        · refine zl_nil ?_
          refine zk_seq ?_
          refine zc_false rfl ?_
          refine zc_skip ?_
          refine zk_norm_block ?_
          exact zk_loopW (p + n, f, out) ⟨by omega, by show f ≤ p + n; omega, hI1, hB1, hCu, by omega, hd⟩ (by show l.length - (p + n) < l.length - p; omega) ⟨rfl, rfl, rfl, rfl, rfl, trivial⟩
  · obtain rfl : p = l.length := by omega
    have hnil : safeN v ([] : List UInt8) = [] := by cases v <;> rfl
    rw [List.drop_length, hnil, List.append_nil] at hd
    refine zc_seq ?_
    refine zc_region ?_
    refine z_nextE (by first | exact want_none | exact want_L rfl) (by decide) rfl hI (Nat.lt_irrefl _) ?_
    refine zl_pureL rfl ?_
    refine zl_nil ?_
    refine zk_seq ?_
    refine zc_seq ?_
    refine zc_false rfl ?_
    refine zc_exit ?_
    iterate 2 (refine zk_exit_then ?_)
    refine zk_exit_block ?_
    refine zk_seq ?_
    refine zc_seq ?_
    refine zc_region ?_
    iterate 2 (refine zl_pureL rfl ?_)
    refine z_cutN f l.length (by first | exact want_none | exact want_L rfl) (by decide) rfl rfl rfl rfl rfl (by omega) (Nat.le_refl _) ?_
    refine zl_call (by first | exact want_none | exact want_L rfl) rfl (by decide) rfl (ws_calls ((l.drop f).take (l.length - f)) hB (by simp only [List.length_take, List.length_drop]; omega) (by omega)) ?_
    rintro _ u3 ⟨rfl, hB3, hC3⟩
    refine ⟨_, rfl, ?_⟩
    rw [hd] at hB3
    have hs3 := hC3.size
    refine zl_nil ?_
    refine zk_seq ?_
    refine zc_seq ?_
    refine zc_region ?_
    refine zl_call (by first | exact want_none | exact want_L rfl) rfl (by decide) rfl (str_calls hB3 (by omega)) ?_
    rintro _ u4 ⟨rfl, hC4⟩
    refine ⟨_, rfl, ?_⟩
    refine zl_pureL rfl ?_
    refine zl_nil ?_
    refine zk_seq ?_
    refine zc_ret ?_
    exact zk_ret1 (.inr rfl) rfl rfl ⟨rfl, Chg.liftS (Chg.liftS hC (by omega) (by omega) hC3) (by omega) (by omega) hC4⟩
end Go.Proofs.Ytbcmiijollpgeaa.T
