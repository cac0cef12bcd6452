import Derived.Test.YtbcmiijollpgeaaPIn
/- Articles as text are the document's: the walk of PrintTells. -/
namespace Go.Proofs.Ytbcmiijollpgeaa.T
open Go Go.Z Go.Proofs
set_option linter.unusedVariables false
theorem attr_le : ∀ (l : List At) (i : Nat), i < l.length → (l.getD i at0).1.length + 6 * (l.getD i at0).2.length ≤ attrsN l
  | [], i, h => by simp at h
  | a :: r, 0, h => by simp only [List.getD_cons_zero, attrsN]; omega
  | a :: r, i + 1, h => by have := attr_le r i (by simpa using h); simp only [List.getD_cons_succ, attrsN]; omega
set_option maxRecDepth 100000 in
set_option maxHeartbeats 16000000 in
theorem PrintTells_walk (a1 : Option Addr) (l1 c1 : Nat) (z1 : List Int) (a2 : Option Addr) (l2 c2 : Nat) (z2 : List Int) (a3 : Option Addr) (l3 c3 : Nat) (nm : ByteArray) (a4 : Option Addr) (l4 c4 : Nat) (w : World) (h1 : IsRow .i64 w a1 l1 c1 z1) (h2 : IsRow .i64 w a2 l2 c2 z2)
    (h3 : ∃ t, TreeAt false w (.slice a3 l3 c3) t ∧ t.wt ≤ 6291456) (h4 : nm.size ≤ 140737488351232) (h5 : ∃ l, AttrS false w (.slice a4 l4 c4) l ∧ attrsN l ≤ 6291456) :
    Calls Try.prog 3 #[.slice a1 l1 c1, .slice a2 l2 c2, .slice a3 l3 c3, .string nm, .slice a4 l4 c4] w fun e w' => e = .returned (.bool true) ∧ RowKit.Below w.heap.size w w' := by
  show Calls Try.prog 3 [Value.slice a1 l1 c1, .slice a2 l2 c2, .slice a3 l3 c3, .string nm, .slice a4 l4 c4].toArray w _
  have hbig : big = 1000000000000 := rfl
  obtain ⟨L, hL⟩ : ∃ L, nm = bs L := ⟨_, bs_of nm⟩
  subst hL
  rw [bs_size] at h4
  obtain ⟨t3, h3, hw3⟩ := h3
  obtain ⟨l, h5, hw5⟩ := h5
  have hv3 := h3.form
  have hv5 := h5.form
  obtain ⟨A3', c3', hv3, _⟩ := hv3
  cases hv3
  obtain ⟨A4', c4', hv5, _⟩ := hv5
  cases hv5
  have hcnt := attrs_cnt l
  refine calls_zc (n := 84) (f := 3) (fn := Try.f3) Try.func3 rfl rfl (by simp) ?_
  refine zc_seq ?_
  refine zc_region ?_
  refine zl_pureL rfl ?_
  refine zl_nil ?_
  refine zk_seq ?_
  iterate 2 (refine zc_seq ?_)
  refine zc_region ?_
  refine zl_call (by first | exact want_none | exact want_L rfl) rfl (by decide) rfl known_calls ?_
  rintro _ w1 ⟨rfl, hC1⟩
  refine ⟨_, rfl, ?_⟩
  refine zl_pureL rfl ?_
  refine zl_nil ?_
  refine zk_seq ?_
  refine zc_false rfl ?_
  refine zc_skip ?_
  refine zk_seq ?_
  refine zc_seq ?_
  refine zc_region ?_
  refine zl_pureL rfl ?_
  refine zl_call (by first | exact want_none | exact want_L rfl) rfl (by decide) rfl (made_calls (h1.no hC1)) ?_
  rintro _ w2 ⟨va, ta, rfl, hta, hoka, hwa, hC2⟩
  refine ⟨_, rfl, ?_⟩
  have hX2 : Chg w w2 No := hC1.no hC2
  obtain ⟨Aa, ca, rfl, _⟩ := hta.form
  refine zl_pureL rfl ?_
  refine zl_nil ?_
  refine zk_seq ?_
  refine zc_seq ?_
  refine zc_region ?_
  iterate 2 (refine zl_pureL rfl ?_)
  refine z_buildE #[.slice a2 l2 c2, .int .i64 0] (by first | exact want_none | exact want_L rfl) (by decide) rfl (by kernel_rfl) ?_
  refine z_box (by first | exact want_none | exact want_L rfl) (by decide) rfl (fun w3 b3 hN3 => ?_)
  have hb3 : Blk w3 b3 30 [.slice a2 l2 c2, .int .i64 ((0 : Nat) : Int)] := hN3.blk
  have hT3 : Tp w3 w2.heap.size b3 := ⟨⟨w2, a2, l2, c2, z2, 0, Nat.le_refl _, hb3, h2.no hX2, hN3.chg.mono (fun _ _ h => h.elim), Nat.zero_le _⟩, Nat.le_of_eq hN3.at_.symm⟩
  skip
  refine zl_call (by first | exact want_none | exact want_L rfl) rfl (by decide) rfl (turn_calls ta hT3 (hta.no hN3.chg) (by omega)) ?_
  rintro _ w4 ⟨vb, tb, rfl, htb, hwb, hT4, hC4⟩
  refine ⟨_, rfl, ?_⟩
  have hX4 : Chg w w4 No := (hX2.no hN3.chg).trans hC4 (fun k hk he => by have := hN3.at_; have := hX2.size; omega)
  have hta4 := (hta.no hN3.chg).tp hT3 hC4
  obtain ⟨Ab, cb, rfl, _⟩ := htb.form
  refine zl_pureL rfl ?_
  refine z_buildE #[.slice a1 l1 c1, .int .i64 0] (by first | exact want_none | exact want_L rfl) (by decide) rfl (by kernel_rfl) ?_
  refine z_box (by first | exact want_none | exact want_L rfl) (by decide) rfl (fun w5 b5 hN5 => ?_)
  have hb5 : Blk w5 b5 30 [.slice a1 l1 c1, .int .i64 ((0 : Nat) : Int)] := hN5.blk
  have hT5 : Tp w5 w4.heap.size b5 := ⟨⟨w4, a1, l1, c1, z1, 0, Nat.le_refl _, hb5, h1.no hX4, hN5.chg.mono (fun _ _ h => h.elim), Nat.zero_le _⟩, Nat.le_of_eq hN5.at_.symm⟩
  skip
  refine zl_call (by first | exact want_none | exact want_L rfl) rfl (by decide) rfl (turn_calls tb hT5 (htb.no hN5.chg) (by omega)) ?_
  rintro _ w6 ⟨vd, td, rfl, htd, hwd, hT6, hC6⟩
  refine ⟨_, rfl, ?_⟩
  have hX6 : Chg w w6 No := (hX4.no hN5.chg).trans hC6 (fun k hk he => by have := hN5.at_; have := hX4.size; omega)
  have hta6 := ((hta4.no hN5.chg).tp hT5 hC6).weak
  have htd6 := htd.weak
  obtain ⟨Ad, cd, rfl, _⟩ := htd.form
  refine zl_pureL rfl ?_
  refine zl_nil ?_
  refine zk_seq ?_
  iterate 2 (refine zc_seq ?_)
  refine zc_region ?_
  refine zl_pureL rfl ?_
  refine zl_call (by first | exact want_none | exact want_L rfl) rfl (by decide) rfl (text_calls hta6 (by omega)) ?_
  rintro _ w7 ⟨rfl, hC7⟩
  refine ⟨_, rfl, ?_⟩
  refine zl_pureL rfl ?_
  refine zl_call (by first | exact want_none | exact want_L rfl) rfl (by decide) rfl (textR_calls ta.size ta (Nat.le_refl _) (hta6.no hC7) (by omega)) ?_
  rintro _ w8 ⟨rfl, hC8⟩
  refine ⟨_, rfl, ?_⟩
  have hX68 := hC7.no hC8
  refine z_neL (by first | exact want_none | exact want_L rfl) (by decide) rfl rfl (fun hc => absurd rfl hc) (fun _ => ?_)
  iterate 2 (refine zl_pureL rfl ?_)
  refine zl_call (by first | exact want_none | exact want_L rfl) rfl (by decide) rfl (text_calls (htd6.no hX68) (by omega)) ?_
  rintro _ w9 ⟨rfl, hC9⟩
  refine ⟨_, rfl, ?_⟩
  refine zl_pureL rfl ?_
  refine zl_call (by first | exact want_none | exact want_L rfl) rfl (by decide) rfl (textR_calls td.size td (Nat.le_refl _) ((htd6.no hX68).no hC9) (by omega)) ?_
  rintro _ u0 ⟨rfl, hC10⟩
  refine ⟨_, rfl, ?_⟩
  refine z_neL (by first | exact want_none | exact want_L rfl) (by decide) rfl rfl (fun hc => absurd rfl hc) (fun _ => ?_)
  have hX0 : Chg w u0 No := (hX6.no hX68).no (hC9.no hC10)
  refine zl_pureL rfl ?_
  refine zl_nil ?_
  refine zk_seq ?_
  refine zc_false rfl ?_
  refine zc_skip ?_
  refine zk_seq ?_
  refine zc_seq ?_
  refine zc_region ?_
  refine zl_pureL rfl ?_
  refine z_lenL want_none (by decide) rfl ?_
  refine zl_pureL rfl ?_
  refine zl_nil ?_
  refine zk_seq ?_
  iterate 2 (refine zc_seq ?_)
  refine zc_region ?_
  refine zl_pureL rfl ?_
  refine zl_nil ?_
  refine zk_seq ?_
  refine zc_block ?_
  refine zc_loopW (ι := Nat × Nat) (fun q u => [(2, .slice a3 t3.len c3), (3, .string (bs L)), (4, .slice a4 l.length c4), (13, .int .i64 q.2), (14, .int .i64 q.1)])
    (fun q u => q.1 ≤ l.length ∧ L.length ≤ q.2 ∧ q.2 ≤ L.length + q.1 * 12582912 ∧ Chg w u No) (fun q u => l.length - q.1) (0, L.length) ⟨Nat.zero_le _, Nat.le_refl L.length, (by simp only [Nat.zero_mul, Nat.add_zero]; exact Nat.le_refl L.length), hX0⟩ ?_ ?_
  · exact ⟨rfl, rfl, rfl, rfl, rfl, trivial⟩
  rintro ⟨i, n⟩ u ⟨hi, hn1, hn2, hC⟩
  dsimp only at hi hn1 hn2 ⊢
  by_cases hlt : i < l.length
  · obtain ⟨b, o, c, hv, hc0, hc1⟩ := (h5.no hC).at_ i hlt
    cases hv
    have hle := attr_le l i hlt
    iterate 2 (refine zc_seq ?_)
    refine zc_region ?_
    iterate 2 (refine zl_pureL rfl ?_)
    refine z_len want_none (by decide) rfl ?_
    refine z_cmpB (r := true) want_none (by decide) rfl rfl rfl (iff_of_true rfl (by omega)) ?_
    refine zl_nil ?_
    refine zk_seq ?_
    refine zc_true rfl ?_
    refine zc_skip ?_
    refine zk_seq ?_
    refine zc_seq ?_
    refine zc_block ?_
    refine zc_draw [] (fun w' => Chg u w' No) (.take 0 (.take 1 (.take 2 (.take 3 (.take 4 (.take 5 (.take 6 (.take 7 (.take 8 (.take 9 (.take 10 (.take 11 (.take 12 (.take 13 (.take 14 (.take 15 (.fin))))))))))))))))) (by rfl) (by kernel_rfl) (by kernel_rfl) (fun u1 hD1 _ => ⟨?_, ?_⟩)
    · exact hD1
    iterate 3 (refine zs_take rfl (zt_pure rfl ?_))
    refine zs_rdL rfl want_none rfl (by decide) (fun _ hS => r_ia rfl rfl (by omega) (by omega)) ?_
    refine zs_rdL rfl want_none rfl (by decide) (fun _ hS => r_fa rfl) ?_
    refine zs_rdL rfl (by first | exact want_none | exact want_L rfl) rfl (by decide) (fun _ hS => r_load1 rfl (cell_at (cell_keep hS hc0) (by omega))) ?_
    refine zs_rdL rfl want_none rfl (by decide) (fun _ hS => r_lenL rfl) ?_
    refine zs_rdL rfl want_none rfl (by decide) (fun _ hS => r_add rfl rfl (by omega) (by omega)) ?_
    iterate 2 (refine zs_take rfl (zt_pure rfl ?_))
    refine zs_rdL rfl want_none rfl (by decide) (fun _ hS => r_ia rfl rfl (by omega) (by omega)) ?_
    refine zs_rdL rfl want_none rfl (by decide) (fun _ hS => r_fa rfl) ?_
    refine zs_rdL rfl (by first | exact want_none | exact want_L rfl) rfl (by decide) (fun _ hS => r_load1 rfl (cell_at (cell_keep hS hc1) (by omega))) ?_
    refine zs_rdL rfl want_none rfl (by decide) (fun _ hS => r_lenL rfl) ?_
    refine zs_rdL rfl want_none rfl (by decide) (fun _ hS => r_add rfl rfl (by omega) (by omega)) ?_
    refine zs_take rfl (zt_pure rfl ?_)
    refine zs_fin ?_
    refine zk_norm_block ?_
    refine zk_seq ?_
    refine zc_region ?_
    refine zl_pureL rfl ?_
    refine z_add want_none (by decide) rfl rfl (by omega) (by omega) ?_
    refine zl_pureL rfl ?_
    refine zl_nil ?_
    refine zk_loopW (i + 1, n + (l.getD i at0).1.length + (l.getD i at0).2.length) ⟨by omega, ?_, ?_, hC.no hD1⟩ (by show l.length - (i + 1) < l.length - i; omega) ⟨rfl, rfl, rfl, get_int rfl (by simp), get_int rfl (by simp), trivial⟩
    · dsimp only; omega
    · dsimp only; omega
  · obtain rfl : i = l.length := by omega
    have hfin : ∀ {v : World}, Chg w v No → RowKit.Below w.heap.size w v := fun h => h.below
    have h5u := h5.no hC
    have h3u := h3.no hC
    by_cases hn : n < 1000
    · iterate 2 (refine zc_seq ?_)
      refine zc_region ?_
      iterate 2 (refine zl_pureL rfl ?_)
      refine z_len want_none (by decide) rfl ?_
      refine z_cmpB (r := false) want_none (by decide) rfl rfl rfl (iff_of_false Bool.false_ne_true (by omega)) ?_
      refine zl_nil ?_
      refine zk_seq ?_
      refine zc_false rfl ?_
      refine zc_exit ?_
      iterate 2 (refine zk_exit_then ?_)
      refine zk_exit_block ?_
      refine zk_seq ?_
      iterate 2 (refine zc_seq ?_)
      refine zc_region ?_
      refine zl_pureL rfl ?_
      refine z_cmpB (r := true) want_none (by decide) rfl rfl rfl (iff_of_true rfl (by omega)) ?_
      iterate 3 (refine zl_pureL rfl ?_)
      refine zl_call (by first | exact want_none | exact want_L rfl) rfl (by decide) rfl (open_calls L h5u (by omega)) ?_
      rintro _ v1 ⟨rfl, hD1⟩
      refine ⟨_, rfl, ?_⟩
      iterate 2 (refine zl_pureL rfl ?_)
      refine zl_call (by first | exact want_none | exact want_L rfl) rfl (by decide) rfl (openR_calls L (h5u.no hD1) (by omega)) ?_
      rintro _ v2 ⟨rfl, hD2⟩
      refine ⟨_, rfl, ?_⟩
      refine z_neL (by first | exact want_none | exact want_L rfl) (by decide) rfl rfl (fun hc => absurd rfl hc) (fun _ => ?_)
      have hX2' := hD1.no hD2
      refine zl_pureL rfl ?_
      refine zl_nil ?_
      refine zk_seq ?_
      refine zc_false rfl ?_
      refine zc_skip ?_
      refine zk_seq ?_
      refine zc_seq ?_
      refine zc_region ?_
      refine zl_pureL rfl ?_
      refine zl_call (by first | exact want_none | exact want_L rfl) rfl (by decide) rfl (small_top t3 (h3u.no hX2') (by omega)) ?_
      rintro _ v3 ⟨⟨q, rfl⟩, hD3⟩
      refine ⟨_, rfl, ?_⟩
      cases q
      · iterate 3 (refine zl_pureL rfl ?_)
        refine zl_skip rfl ?_
        refine zl_pureL rfl ?_
        iterate 2 (refine zl_skip rfl ?_)
        iterate 2 (refine zl_pureL rfl ?_)
        refine zl_nil ?_
        refine zk_seq ?_
        refine zc_ret ?_
        exact zk_ret1 (.inr rfl) rfl rfl ⟨rfl, hfin ((hC.no hX2').no hD3)⟩
      · iterate 3 (refine zl_pureL rfl ?_)
        refine zl_call (by first | exact want_none | exact want_L rfl) rfl (by decide) rfl (text_calls ((h3u.no hX2').no hD3) (by omega)) ?_
        rintro _ v4 ⟨rfl, hD4⟩
        refine ⟨_, rfl, ?_⟩
        refine zl_pureL rfl ?_
        refine zl_call (by first | exact want_none | exact want_L rfl) rfl (by decide) rfl (textR_calls t3.size t3 (Nat.le_refl _) (((h3u.no hX2').no hD3).no hD4) (by omega)) ?_
        rintro _ v5 ⟨rfl, hD5⟩
        refine ⟨_, rfl, ?_⟩
        refine z_eqL (by first | exact want_none | exact want_L rfl) (by decide) rfl rfl (fun _ => ?_) (fun hc => absurd rfl hc)
        iterate 2 (refine zl_pureL rfl ?_)
        refine zl_nil ?_
        refine zk_seq ?_
        refine zc_ret ?_
        exact zk_ret1 (.inr rfl) rfl rfl ⟨rfl, hfin (((hC.no hX2').no hD3).no (hD4.no hD5))⟩
    · iterate 2 (refine zc_seq ?_)
      refine zc_region ?_
      iterate 2 (refine zl_pureL rfl ?_)
      refine z_len want_none (by decide) rfl ?_
      refine z_cmpB (r := false) want_none (by decide) rfl rfl rfl (iff_of_false Bool.false_ne_true (by omega)) ?_
      refine zl_nil ?_
      refine zk_seq ?_
      refine zc_false rfl ?_
      refine zc_exit ?_
      iterate 2 (refine zk_exit_then ?_)
      refine zk_exit_block ?_
      refine zk_seq ?_
      iterate 2 (refine zc_seq ?_)
      refine zc_region ?_
      refine zl_pureL rfl ?_
      refine z_cmpB (r := false) want_none (by decide) rfl rfl rfl (iff_of_false Bool.false_ne_true (by omega)) ?_
      iterate 3 (refine zl_pureL rfl ?_)
      refine zl_skip rfl ?_
      iterate 2 (refine zl_pureL rfl ?_)
      iterate 2 (refine zl_skip rfl ?_)
      refine zl_pureL rfl ?_
      refine zl_nil ?_
      refine zk_seq ?_
      refine zc_false rfl ?_
      refine zc_skip ?_
      refine zk_seq ?_
      refine zc_seq ?_
      refine zc_region ?_
      refine zl_pureL rfl ?_
      refine zl_call (by first | exact want_none | exact want_L rfl) rfl (by decide) rfl (small_top t3 h3u (by omega)) ?_
      rintro _ v3 ⟨⟨q, rfl⟩, hD3⟩
      refine ⟨_, rfl, ?_⟩
      cases q
      · iterate 3 (refine zl_pureL rfl ?_)
        refine zl_skip rfl ?_
        refine zl_pureL rfl ?_
        iterate 2 (refine zl_skip rfl ?_)
        iterate 2 (refine zl_pureL rfl ?_)
        refine zl_nil ?_
        refine zk_seq ?_
        refine zc_ret ?_
        exact zk_ret1 (.inr rfl) rfl rfl ⟨rfl, hfin (hC.no hD3)⟩
      · iterate 3 (refine zl_pureL rfl ?_)
        refine zl_call (by first | exact want_none | exact want_L rfl) rfl (by decide) rfl (text_calls (h3u.no hD3) (by omega)) ?_
        rintro _ v4 ⟨rfl, hD4⟩
        refine ⟨_, rfl, ?_⟩
        refine zl_pureL rfl ?_
        refine zl_call (by first | exact want_none | exact want_L rfl) rfl (by decide) rfl (textR_calls t3.size t3 (Nat.le_refl _) ((h3u.no hD3).no hD4) (by omega)) ?_
        rintro _ v5 ⟨rfl, hD5⟩
        refine ⟨_, rfl, ?_⟩
        refine z_eqL (by first | exact want_none | exact want_L rfl) (by decide) rfl rfl (fun _ => ?_) (fun hc => absurd rfl hc)
        iterate 2 (refine zl_pureL rfl ?_)
        refine zl_nil ?_
        refine zk_seq ?_
        refine zc_ret ?_
        exact zk_ret1 (.inr rfl) rfl rfl ⟨rfl, hfin ((hC.no hD3).no (hD4.no hD5))⟩
end Go.Proofs.Ytbcmiijollpgeaa.T
