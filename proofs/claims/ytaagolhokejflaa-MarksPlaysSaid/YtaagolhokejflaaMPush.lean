import Derived.Test.YtaagolhokejflaaMClr
import Derived.Test.YtaagolhokejflaaMRead2
/- Push. -/
namespace Go.Proofs.Ytaagolhokejflaa.M
open Go Go.Z Go.Proofs
set_option linter.unusedVariables false
def keyEq (a x : Mark) : Bool := decide (a.name = x.name) && (decide ((a.attrs.length : Int) = x.attrs.length) && true)
def alike (x a : Mark) : Bool := keyEq a x && tagSame a.attrs x.attrs
def manyF (L : List Mark) (x : Mark) (k : Nat) : Nat := ((L.drop k).filter (alike x)).length
def firstF (L : List Mark) (x : Mark) : Nat → Nat → Int
  | _, 0 => -1
  | k, f + 1 => if alike x (L.getD k Mark.z) then (k : Int) else firstF L x (k + 1) f
def pushM (L : List Mark) (x : Mark) : List Mark :=
  (if 3 ≤ manyF L x (beginN L L.length) then dropM L (firstF L x (beginN L L.length) (L.length - beginN L L.length)).toNat else L) ++ [x]
theorem drop_cons {α : Type} (d : α) (l : List α) (k : Nat) (h : k < l.length) : l.drop k = l.getD k d :: l.drop (k + 1) := by
  rw [List.drop_eq_getElem_cons h, List.getD_eq_getElem?_getD, List.getElem?_eq_getElem h]; rfl
theorem manyF_le (L : List Mark) (x : Mark) (k : Nat) : manyF L x k ≤ L.length - k := by
  unfold manyF; exact Nat.le_trans (List.length_filter_le _ _) (by simp)
theorem firstF_lt (L : List Mark) (x : Mark) : ∀ (f k : Nat), f = L.length - k → k ≤ L.length → 0 < manyF L x k → 0 ≤ firstF L x k f ∧ firstF L x k f < L.length
  | 0, k, hf, hk, hm => by have := manyF_le L x k; omega
  | f + 1, k, hf, hk, hm => by
    unfold firstF
    split
    · omega
    · rename_i hn
      refine firstF_lt L x f (k + 1) (by omega) (by omega) ?_
      unfold manyF at hm ⊢
      rw [drop_cons Mark.z L k (by omega), List.filter_cons, if_neg hn] at hm
      exact hm
set_option maxHeartbeats 8000000 in
theorem push_calls {w : World} {g : Nat} {v av : Value} {L : List Mark} {nd : Int} {nm : ByteArray} {l : List At} (h : IsM w 62 g v L) (hl : L.length ≤ 100000) (ha : AttrS w av l) (hal : l.length ≤ 100000) (hLal : ∀ m ∈ L, m.attrs.length ≤ 100000) :
    Calls Try.prog 15 [Value.pointer (some ⟨g, 0, none⟩), .agg #[.int .i64 nd, .string nm, av]].toArray w fun e w' => e = .returned (.tuple #[]) ∧ ∃ v', IsM w' 62 g v' (pushM L ⟨nd, nm, l⟩) ∧ Wr w w' g v v' := by
  obtain ⟨A2, c2, hv2, hc2⟩ := ha.form
  subst hv2
  obtain ⟨A0, c0, hv0, hc0⟩ := h.form
  subst hv0
  refine calls_zc (n := 62) (f := 15) (fn := Try.f15) Try.func15 rfl rfl (by simp) ?_
  refine zc_seq ?_
  refine zc_region ?_
  refine z_box (by first | exact want_none | exact want_L rfl) (by decide) rfl (fun w1 b1 hN1 => ?_)
  have hb1 : Blk w1 b1 32 [.int .i64 nd, .string nm, .slice A2 l.length c2] := hN1.blk
  have hg1 := (h.no hN1.chg).1
  refine zl_nil ?_
  refine zk_seq ?_
  refine zc_seq ?_
  refine zc_region ?_
  iterate 2 (refine zl_pureL rfl ?_)
  refine zl_nil ?_
  refine zk_seq ?_
  iterate 2 (refine zc_seq ?_)
  refine zc_region ?_
  iterate 2 (refine zl_pureL rfl ?_)
  refine z_fa want_none (by decide) rfl ?_
  refine z_loadB want_none (by decide) rfl (by assumption) (by rfl) ?_
  refine z_len want_none (by decide) rfl ?_
  refine z_sub want_none (by decide) rfl rfl (by omega) (by omega) ?_
  refine zl_pureL rfl ?_
  refine zl_nil ?_
  refine zk_seq ?_
  refine zc_block ?_
  refine zc_loopW (ι := Nat) (fun k u => [(0, .pointer (some ⟨g, 0, none⟩)), (3, .pointer (some ⟨b1, 0, none⟩)), (4, .int .i64 (manyF L ⟨nd, nm, l⟩ k)), (5, .int .i64 (firstF L ⟨nd, nm, l⟩ k (L.length - k))), (6, .int .i64 (k - 1))])
    (fun k u => beginN L L.length ≤ k ∧ k ≤ L.length ∧ Chg w1 u No) (fun k u => k) L.length ⟨beginN_le _ _, Nat.le_refl _, Chg.refl _ _⟩ ?_ ?_
  · refine ⟨rfl, rfl, ?_, ?_, rfl, trivial⟩
    · simp [manyF]; rfl
    · simp [firstF]; rfl
  rintro k w2 ⟨hbk, hk, hC⟩
  have h2 := (h.no hN1.chg).no hC
  have hb2 := hb1.no hC
  have hg2 := h2.1
  iterate 2 (refine zc_seq ?_)
  refine zc_region ?_
  iterate 2 (refine zl_pureL rfl ?_)
  refine zl_call (by first | exact want_none | exact want_L rfl) rfl (by decide) rfl (begin_calls h2 hl) ?_
  rintro _ w3 ⟨rfl, rfl⟩
  refine ⟨_, rfl, ?_⟩
  skip
  refine z_cmp (by first | exact want_none | exact want_L rfl) (by decide) rfl rfl rfl (fun hc => ?_) (fun hc => ?_)
  · have hk0 : 0 < k := by omega
    obtain ⟨k, rfl⟩ : ∃ j, k = j + 1 := ⟨k - 1, by omega⟩
    obtain ⟨b, c, A3, hv3, e0, e1, e2, ha3⟩ := h2.at_ k (by omega)
    cases hv3
    refine zl_nil ?_
    refine zk_seq ?_
    refine zc_true rfl ?_
    refine zc_skip ?_
    refine zk_seq ?_
    refine zc_seq ?_
    refine zc_block ?_
    refine zc_seq ?_
    refine zc_draw [] (fun w' => Chg w3 w' No ∧ Blk w' g 62 [.slice (some ⟨b, 0, none⟩) L.length c0] ∧ Blk w' b1 32 [.int .i64 nd, .string nm, .slice A2 l.length c2]) (.take 0 (.take 1 (.take 2 (.take 3 (.take 4 (.take 5 (.take 6 (.take 8 (.all1 7 (.all1 9 (.take 10 (.take 11 (.take 12 (.take 13 (.take 14 (.take 15 (.take 16 (.take 17 (.take 18 (.take 19 (.take 20 (.take 21 (.all1 22 (.take 23 (.fin))))))))))))))))))))))))) (by rfl) (by kernel_rfl) (by kernel_rfl) (fun w1 hC1 hH1 => ⟨?_, ?_⟩)
    · exact ⟨‹_›, hg2.no ‹_›, hb2.no ‹_›⟩
    iterate 2 (refine zs_take rfl (zt_pure rfl ?_))
    refine zs_rdL rfl want_none rfl (by decide) (fun _ hS => r_fa rfl) ?_
    refine zs_rdL rfl want_none rfl (by decide) (fun _ hS => r_loadB rfl hS.2.1 (by rfl)) ?_
    refine zs_take rfl (zt_pure rfl ?_)
    refine zs_rdL rfl want_none rfl (by decide) (fun _ hS => r_ia rfl rfl (by omega) (by omega)) ?_
    refine zs_rdL rfl (by first | exact want_none | exact want_L rfl) rfl (by decide) (fun _ hS => r_loadA (by rfl) rfl (agg3 (cell_no hS.1 e0) (cell_no hS.1 e1) (cell_no hS.1 e2) (by omega))) ?_
    refine zs_rdL rfl want_none rfl (by decide) (fun _ hS => r_loadAB rfl hS.2.2 (by rfl)) ?_
    obtain ⟨A4, c4, rfl, hc4⟩ := ha3.form
    refine zs_call rfl (by first | exact want_none | exact want_L rfl) rfl (by decide) rfl (keyOf_calls (ha3.no ‹_›)) ?_
    rintro _ w5 ⟨rfl, hC5⟩
    have hC5 := hC1.no hC5
    refine ⟨_, rfl, ⟨hC5, hg2.no hC5, hb2.no hC5⟩, ?_⟩
    have hax : AttrS w5 (.slice A2 l.length c2) l := ha.no ((hN1.chg.no hC).no hC5)
    skip
    refine zs_call rfl (by first | exact want_none | exact want_L rfl) rfl (by decide) rfl (keyOf_calls hax) ?_
    rintro _ w6 ⟨rfl, hC6⟩
    have hC6 := hC5.no hC6
    refine ⟨_, rfl, ⟨hC6, hg2.no hC6, hb2.no hC6⟩, ?_⟩
    refine zs_rdL rfl (by first | exact want_none | exact want_L rfl) rfl (by decide) (fun _ hS => r_eqA (r := keyEq (L.getD k Mark.z) ⟨nd, nm, l⟩) rfl rfl (by kernel_rfl) (fun d => eq_key d)) ?_
    have hcons := drop_cons Mark.z L k (by omega)
    have hm1 : alike ⟨nd, nm, l⟩ (L.getD k Mark.z) = true → manyF L ⟨nd, nm, l⟩ (k + 1) + 1 = manyF L ⟨nd, nm, l⟩ k ∧ (k : Int) = firstF L ⟨nd, nm, l⟩ k (L.length - k) := fun ht => by
      refine ⟨?_, ?_⟩
      · unfold manyF; rw [hcons, List.filter_cons, if_pos ht]; rfl
      · rw [show L.length - k = (L.length - (k + 1)) + 1 by omega, firstF, if_pos ht]
    have hm0 : alike ⟨nd, nm, l⟩ (L.getD k Mark.z) = false → manyF L ⟨nd, nm, l⟩ (k + 1) = manyF L ⟨nd, nm, l⟩ k ∧ firstF L ⟨nd, nm, l⟩ (k + 1) (L.length - (k + 1)) = firstF L ⟨nd, nm, l⟩ k (L.length - k) := fun ht => by
      refine ⟨?_, ?_⟩
      · unfold manyF; rw [hcons, List.filter_cons, if_neg (by rw [ht]; exact Bool.false_ne_true)]
      · rw [show L.length - k = (L.length - (k + 1)) + 1 by omega, firstF, if_neg (by rw [ht]; exact Bool.false_ne_true)]
    have hml := manyF_le L ⟨nd, nm, l⟩ (k + 1)
    cases hq : keyEq (L.getD k Mark.z) ⟨nd, nm, l⟩
    · obtain ⟨hm1, hm2⟩ := hm0 (by unfold alike; rw [hq]; rfl)
      iterate 3 (refine zs_take rfl (zt_pure rfl ?_))
      iterate 2 (refine zs_take rfl (zt_skip rfl ?_))
      refine zs_take rfl (zt_pure rfl ?_)
      iterate 5 (refine zs_take rfl (zt_skip rfl ?_))
      refine zs_alone rfl (za_skip rfl ?_)
      refine zs_take rfl (zt_pure rfl ?_)
      refine zs_fin ?_
      refine zk_seq ?_
      refine zc_false rfl ?_
      refine zc_skip ?_
      refine zk_norm_block ?_
      refine zk_seq ?_
      refine zc_region ?_
      refine zl_pureL rfl ?_
      refine z_sub want_none (by decide) rfl rfl (by omega) (by omega) ?_
      refine zl_pureL rfl ?_
      refine zl_nil ?_
      refine zk_loopW k ⟨by omega, by omega, (hC.no hC6)⟩ (by omega) ⟨rfl, rfl, get_int rfl (by omega), get_int rfl hm2, get_int rfl (by omega), trivial⟩
    · iterate 3 (refine zs_take rfl (zt_pure rfl ?_))
      refine zs_rdL rfl (want_L rfl) rfl (by decide) (fun _ hS => r_fa rfl) ?_
      refine zs_rdL rfl (want_L rfl) rfl (by decide) (fun _ hS => r_loadB rfl hS.2.1 (by rfl)) ?_
      refine zs_take rfl (zt_pure rfl ?_)
      refine zs_rdL rfl (want_L rfl) rfl (by decide) (fun _ hS => r_ia rfl rfl (by omega) (by omega)) ?_
      refine zs_rdL rfl (want_L rfl) rfl (by decide) (fun _ hS => r_fa rfl) ?_
      refine zs_rdL rfl (by first | exact want_none | exact want_L rfl) rfl (by decide) (fun _ hS => r_load1 rfl (cell_at (cell_no hS.1 e2) (by omega))) ?_
      refine zs_rdL rfl (want_L rfl) rfl (by decide) (fun _ hS => r_fa rfl) ?_
      refine zs_rdL rfl (want_L rfl) rfl (by decide) (fun _ hS => r_loadB rfl hS.2.2 (by rfl)) ?_
      refine zs_call rfl (by first | exact want_none | exact want_L rfl) rfl (by decide) rfl (tagSame_calls (ha3.no hC6) (hax.no ‹Chg w5 w6 No›) (hLal _ (getD_mem (by omega))) hal) ?_
      rintro _ w7 ⟨rfl, hC7⟩
      have hC7 := hC6.no hC7
      refine ⟨_, rfl, ⟨hC7, hg2.no hC7, hb2.no hC7⟩, ?_⟩
      have hal' : alike ⟨nd, nm, l⟩ (L.getD k Mark.z) = tagSame (L.getD k Mark.z).attrs l := by unfold alike; rw [hq]; rfl
      cases hs : tagSame (L.getD k Mark.z).attrs l
      · obtain ⟨hm1, hm2⟩ := hm0 (by rw [hal', hs])
        refine zs_take rfl (zt_pure rfl ?_)
        refine zs_fin ?_
        refine zk_seq ?_
        refine zc_false rfl ?_
        refine zc_skip ?_
        refine zk_norm_block ?_
        refine zk_seq ?_
        refine zc_region ?_
        refine zl_pureL rfl ?_
        refine z_sub want_none (by decide) rfl rfl (by omega) (by omega) ?_
        refine zl_pureL rfl ?_
        refine zl_nil ?_
        refine zk_loopW k ⟨by omega, by omega, (hC.no hC7)⟩ (by omega) ⟨rfl, rfl, get_int rfl (by omega), get_int rfl hm2, get_int rfl (by omega), trivial⟩
      · obtain ⟨hm1, hm2⟩ := hm1 (by rw [hal', hs])
        refine zs_take rfl (zt_pure rfl ?_)
        refine zs_fin ?_
        refine zk_seq ?_
        refine zc_true rfl ?_
        refine zc_seq ?_
        refine zc_region ?_
        refine zl_pureL rfl ?_
        refine z_add want_none (by decide) rfl rfl (by omega) (by omega) ?_
        refine zl_pureL rfl ?_
        refine zl_nil ?_
        refine zk_seq ?_
        refine zc_region ?_
        iterate 2 (refine zl_pureL rfl ?_)
        refine zl_nil ?_
        refine zk_norm_block ?_
        refine zk_seq ?_
        refine zc_region ?_
        refine zl_pureL rfl ?_
        refine z_sub want_none (by decide) rfl rfl (by omega) (by omega) ?_
        refine zl_pureL rfl ?_
        refine zl_nil ?_
        refine zk_loopW k ⟨by omega, by omega, (hC.no hC7)⟩ (by omega) ⟨rfl, rfl, get_int rfl (by omega), get_int rfl (by omega), get_int rfl (by omega), trivial⟩
  · obtain rfl : k = beginN L L.length := by omega
    have hml := manyF_le L ⟨nd, nm, l⟩ (beginN L L.length)
    have hCw := hN1.chg.no hC
    refine zl_nil ?_
    refine zk_seq ?_
    refine zc_false rfl ?_
    refine zc_exit ?_
    iterate 2 (refine zk_exit_then ?_)
    refine zk_exit_block ?_
    refine zk_seq ?_
    iterate 2 (refine zc_seq ?_)
    refine zc_region ?_
    refine zl_pureL rfl ?_
    refine z_cmpB (r := decide (3 ≤ manyF L ⟨nd, nm, l⟩ (beginN L L.length))) (by first | exact want_none | exact want_L rfl) (by decide) rfl rfl rfl (by simp; omega) ?_
    refine zl_nil ?_
    refine zk_seq ?_
    refine zc_midT (fun w4 => ∃ v4 M, IsM w4 62 g v4 M ∧ M.length ≤ 100000 ∧ M = (if 3 ≤ manyF L ⟨nd, nm, l⟩ (beginN L L.length) then dropM L (firstF L ⟨nd, nm, l⟩ (beginN L L.length) (L.length - beginN L L.length)).toNat else L) ∧ Wr w w4 g (.slice A0 L.length c0) v4 ∧ Blk w4 b1 32 [.int .i64 nd, .string nm, .slice A2 l.length c2] ∧ AttrS w4 (.slice A2 l.length c2) l ∧ v4.ownBlock ≠ some b1)
      [(0, .pointer (some ⟨g, 0, none⟩)), (3, .pointer (some ⟨b1, 0, none⟩))] ?_ ?_
    · have hb1v : (Value.slice A0 L.length c0).ownBlock ≠ some b1 := fun he => by
        have := h.lt _ (.inr he); have := hN1.at_; omega
      refine zc_cond rfl (fun ht => ?_) (fun hf => ?_)
      · have h3 : 3 ≤ manyF L ⟨nd, nm, l⟩ (beginN L L.length) := of_decide_eq_true ht
        obtain ⟨hf0, hf1⟩ := firstF_lt L ⟨nd, nm, l⟩ _ (beginN L L.length) rfl hk (by omega)
        obtain ⟨j, hj⟩ := Int.eq_ofNat_of_zero_le hf0
        rw [hj] at hf1 ⊢
        refine zc_region ?_
        iterate 2 (refine zl_pureL rfl ?_)
        refine zl_call (by first | exact want_none | exact want_L rfl) rfl (by decide) rfl (drop_calls h2 hl j (by omega)) ?_
        rintro _ w5 ⟨rfl, v5, hI5, hW5⟩
        refine ⟨_, rfl, ?_⟩
        refine zl_nil ?_
        refine zk_mid ⟨v5, _, hI5, by unfold dropM; simp; omega, by rw [if_pos h3]; simp, Wr.pre hCw hW5, hb2.chg hW5.chg ?_, ?_, ?_⟩ ⟨rfl, rfl, trivial⟩
        · rintro (he | he)
          · exact hb2.ne hg2 (by decide) he
          · exact hb1v he
        · exact (ha.no hCw).keep (fun b cells hb => hb.chg hW5.chg (h2.foot47 (by decide) b cells hb))
        · intro he
          rcases hW5.row with h6 | ⟨k, h6, h7⟩
          · exact hb1v (h6 ▸ he)
          · rw [he] at h6; cases h6; have := hb2.lt; omega
      · have h3 : ¬ 3 ≤ manyF L ⟨nd, nm, l⟩ (beginN L L.length) := of_decide_eq_false hf
        refine zc_skip ?_
        exact zk_mid ⟨_, _, h2, hl, by rw [if_neg h3], Wr.of_no hCw _ _, hb2, ha.no hCw, hb1v⟩ ⟨rfl, rfl, trivial⟩
    rintro w4 ⟨v4, M, hI4, hMl, hM, hW4, hb4, ha4, hvb⟩
    obtain ⟨A4, c4, hv4, hc4⟩ := hI4.form
    subst hv4
    have hne4 := hI4.ne (by decide)
    obtain ⟨hg4, ms, hO4, hA4⟩ := hI4
    have hlen := hA4.length
    refine zc_draw [11] (fun w' => Blk w' g 62 [.slice A4 M.length c4] ∧ Blk w' b1 32 [.int .i64 nd, .string nm, .slice A2 l.length c2]) (.take 0 (.take 1 (.take 2 (.take 3 (.take 4 (.take 5 (.all1 6 (.all1 7 (.all1 8 (.plain 9 (.take 10 (.last 11)))))))))))) (by rfl) (by kernel_rfl) (by kernel_rfl) (fun w1 hC1 hH1 => ⟨?_, ?_⟩)
    · exact ⟨hg4.no ‹_›, hb4.no ‹_›⟩
    iterate 3 (refine zs_take rfl (zt_pure rfl ?_))
    refine zs_rdL rfl want_none rfl (by decide) (fun _ hS => r_fa rfl) ?_
    refine zs_rdL rfl want_none rfl (by decide) (fun _ hS => r_loadB rfl hS.1 (by rfl)) ?_
    refine zs_rdL rfl want_none rfl (by decide) (fun _ hS => r_loadAB rfl hS.2 (by rfl)) ?_
    refine zs_call rfl (by first | exact want_none | exact want_L rfl) rfl (by decide) rfl (own_calls (ha4.no ‹_›) hal) ?_
    rintro _ w6 ⟨v6, rfl, ha6, hn6, hC6⟩
    obtain ⟨A6, c6, hv6, hc6⟩ := ha6.form
    subst hv6
    have hC6 := hC1.no hC6
    refine ⟨_, rfl, ⟨hg4.no hC6, hb4.no hC6⟩, ?_⟩
    refine zs_bs1 rfl (by first | exact want_none | exact want_L rfl) (by decide) rfl (by rfl) (by rfl) (by decide) (by decide) (fun w7 b7 hN7 => ?_)
    have hC7 := hC6.new hN7
    refine ⟨⟨hg4.no hC7, hb4.no hC7⟩, ?_⟩
    have hO7 := hO4.no hC7
    rw [hlen] at hO7
    have hx : MR w6 ⟨nd, nm, .slice A6 l.length c6⟩ ⟨nd, nm, l⟩ := ⟨rfl, rfl, ha6⟩
    refine zs_appendO rfl (by rfl) (by decide) (by first | exact want_none | exact want_L rfl) (by decide) rfl rfl hO7 (RdS.mark hx hN7) (by omega) (by omega) (fun v8 w8 hO8 hC8 hr8 => ?_)
    have hg8 := (hg4.no hC7).chg hC8 hne4
    have hb8 := (hb4.no hC7).chg hC8 hvb
    refine ⟨⟨hg8, hb8⟩, ?_⟩
    have hK := (K47.no hC7).trans (K47.own hO7 (by decide) hC8)
    have hK6 := (K47.no hN7.chg).trans (K47.own hO7 (by decide) hC8)
    have hne8 : v8.ownBlock ≠ some g := fun he => hO8.ne he hg8 (by decide) rfl
    obtain ⟨A8, c8, rfl, hc8⟩ := hO8.rd.form
    refine zs_plainL rfl rfl ?_
    refine zs_rdL rfl want_none rfl (by decide) (fun _ hS => r_fa rfl) ?_
    refine zs_storeL rfl (by first | exact want_none | exact want_L rfl) rfl rfl rfl (by assumption) (by first | exact Nat.le_refl _ | simp [Value.cells]) (by simp [Value.cells, Value.oneCell']) (fun w9 hU9 => ?_)
    skip
    have hW9 : Wr w4 w9 g (.slice A4 M.length c4) (.slice A8 (M.length + 1) c8) := ⟨((hC7.mono (fun _ _ h => h.elim)).trans hC8 (fun _ _ h => .inr h)).trans hU9.chg (fun _ _ h => .inl h), hr8.imp id (fun ⟨k, h1, h2⟩ => ⟨k, h1, by have := hC7.size; omega⟩)⟩
    refine zk_ret0 (.inl rfl) rfl ⟨rfl, _, ?_, hW4.trans hW9⟩
    unfold pushM
    rw [← hM]
    refine IsM.mk' (ms := ms ++ [⟨nd, nm, .slice A6 l.length c6⟩]) hU9.blk (hO8.chg hU9.chg (fun k hk he => hne8 (he ▸ hk))) (by simp; omega) (encM_app _ _).symm ?_
    exact All2.append (all2_keep hA4 (hK.trans (K47.upd hU9 (by decide)))) (All2.one (hx.keep (hK6.trans (K47.upd hU9 (by decide)))))
end Go.Proofs.Ytaagolhokejflaa.M
