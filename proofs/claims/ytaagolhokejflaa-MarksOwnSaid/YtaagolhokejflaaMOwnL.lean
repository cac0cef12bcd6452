import Derived.Test.YtaagolhokejflaaMLaw1
/- MarksOwn: the walk. -/
namespace Go.Proofs.Ytaagolhokejflaa.M
open Go Go.Z Go.Proofs
set_option linter.unusedVariables false
/-- a row of attributes that is newer than what is written stays -/
theorem AttrS.fresh {w w' : World} {v : Value} {l : List At} {B : Nat} {S : Nat → Prop} (h : AttrS w v l) (hn : NewS B v) (hc : Chg w w' S) (hS : ∀ k, S k → k < B) : AttrS w' v l := by
  obtain ⟨a1, a2, A, c, a3, a4, a5⟩ := h
  refine ⟨a1, a2, A, c, a3, a4, fun hm => ?_⟩
  obtain ⟨b, o, cells, a6, a7, a8⟩ := a5 hm
  refine ⟨b, o, cells, a6, a7.chg hc (fun hs => ?_), a8⟩
  have h6 := hn b (by rw [a3, a6]; rfl)
  have := hS b hs; omega
set_option maxHeartbeats 4000000 in
/-- a push on an empty list: its row of attributes is new -/
theorem push1_calls {w : World} {g : Nat} {av : Value} {nd : Int} {nm : ByteArray} {l : List At} (h : IsM w 62 g (.slice none 0 0) []) (ha : AttrS w av l) (hal : l.length ≤ 100000) :
    Calls Try.prog 15 [Value.pointer (some ⟨g, 0, none⟩), .agg #[.int .i64 nd, .string nm, av]].toArray w fun e w' => e = .returned (.tuple #[]) ∧ ∃ v' m, Blk w' g 62 [v'] ∧ Own w' 32 3 v' 1 (encM [m]) ∧ MR w' m ⟨nd, nm, l⟩ ∧ NewS w.heap.size m.attrs ∧ Wr w w' g (.slice none 0 0) v' := by
  obtain ⟨A2, c2, hv2, hc2⟩ := ha.form
  subst hv2
  refine calls_zc (n := 62) (f := 15) (fn := Try.f15) Try.func15 rfl rfl (by simp) ?_
  refine zc_seq ?_
  refine zc_region ?_
  refine z_box (by first | exact want_none | exact want_L rfl) (by decide) rfl (fun w1 b1 hN1 => ?_)
  have hb1 : Blk w1 b1 32 [.int .i64 nd, .string nm, .slice A2 l.length c2] := hN1.blk
  have h1 := h.no hN1.chg
  have hg1 := h1.1
  refine zl_nil ?_
  refine zk_seq ?_
  refine zc_seq ?_
  refine zc_region ?_
  iterate 2 (refine zl_pureL rfl ?_)
  refine zl_nil ?_
  refine zk_seq ?_
  iterate 2 (refine zc_seq ?_)
  refine zc_region ?_
  iterate 2 (refine zl_pureL rfl ?_)
  refine z_fa want_none (by decide) rfl ?_
  refine z_loadB want_none (by decide) rfl (by assumption) (by rfl) ?_
  refine z_len want_none (by decide) rfl ?_
  refine z_sub want_none (by decide) rfl rfl (by omega) (by omega) ?_
  refine zl_pureL rfl ?_
  refine zl_nil ?_
  refine zk_seq ?_
  refine zc_block ?_
  refine zc_loopW (ι := Unit) (fun k u => [(0, .pointer (some ⟨g, 0, none⟩)), (3, .pointer (some ⟨b1, 0, none⟩)), (4, .int .i64 0), (5, .int .i64 (-1)), (6, .int .i64 (-1))])
    (fun k u => Chg w1 u No) (fun k u => 0) () (Chg.refl _ _) ?_ ?_
  · exact ⟨rfl, rfl, rfl, rfl, rfl, trivial⟩
  rintro k w2 hC
  have h2 := h1.no hC
  have hb2 := hb1.no hC
  have hg2 := h2.1
  iterate 2 (refine zc_seq ?_)
  refine zc_region ?_
  iterate 2 (refine zl_pureL rfl ?_)
  refine zl_call (by first | exact want_none | exact want_L rfl) rfl (by decide) rfl (begin_calls h2 (Nat.zero_le _)) ?_
  rintro _ w3 ⟨rfl, rfl⟩
  refine ⟨_, rfl, ?_⟩
  have hz : (beginN ([] : List Mark) ([] : List Mark).length : Nat) = 0 := rfl
  rw [hz]
  have hCw := hN1.chg.no hC
  refine z_cmpB (r := false) want_none (by decide) rfl rfl rfl (iff_of_false Bool.false_ne_true (by omega)) ?_
  refine zl_nil ?_
  refine zk_seq ?_
  refine zc_false rfl ?_
  refine zc_exit ?_
  iterate 2 (refine zk_exit_then ?_)
  refine zk_exit_block ?_
  refine zk_seq ?_
  iterate 2 (refine zc_seq ?_)
  refine zc_region ?_
  refine zl_pureL rfl ?_
  refine z_cmpB (r := false) want_none (by decide) rfl rfl rfl (iff_of_false Bool.false_ne_true (by omega)) ?_
  refine zl_nil ?_
  refine zk_seq ?_
  refine zc_false rfl ?_
  refine zc_skip ?_
  refine zk_seq ?_
  refine zc_draw [11] (fun w' => Blk w' g 62 [.slice none 0 0] ∧ Blk w' b1 32 [.int .i64 nd, .string nm, .slice A2 l.length c2]) (.take 0 (.take 1 (.take 2 (.take 3 (.take 4 (.take 5 (.all1 6 (.all1 7 (.all1 8 (.plain 9 (.take 10 (.last 11)))))))))))) (by rfl) (by kernel_rfl) (by kernel_rfl) (fun w1 hC1 hH1 => ⟨?_, ?_⟩)
  · exact ⟨hg2.no ‹_›, hb2.no ‹_›⟩
  iterate 3 (refine zs_take rfl (zt_pure rfl ?_))
  refine zs_rdL rfl want_none rfl (by decide) (fun _ hS => r_fa rfl) ?_
  refine zs_rdL rfl want_none rfl (by decide) (fun _ hS => r_loadB rfl hS.1 (by rfl)) ?_
  refine zs_rdL rfl want_none rfl (by decide) (fun _ hS => r_loadAB rfl hS.2 (by rfl)) ?_
  refine zs_call rfl (by first | exact want_none | exact want_L rfl) rfl (by decide) rfl (own_calls ((ha.no hCw).no ‹_›) hal) ?_
  rintro _ w6 ⟨v6, rfl, ha6, hn6, hC6⟩
  obtain ⟨A6, c6, hv6, hc6⟩ := ha6.form
  subst hv6
  have hC6 := hC1.no hC6
  refine ⟨_, rfl, ⟨hg2.no hC6, hb2.no hC6⟩, ?_⟩
  refine zs_bs1 rfl (by first | exact want_none | exact want_L rfl) (by decide) rfl (by rfl) (by rfl) (by decide) (by decide) (fun w7 b7 hN7 => ?_)
  have hC7 := hC6.new hN7
  refine ⟨⟨hg2.no hC7, hb2.no hC7⟩, ?_⟩
  have hO7 : Own w7 32 3 (.slice none 0 0) 0 [] := Own.nil
  have hx : MR w6 ⟨nd, nm, .slice A6 l.length c6⟩ ⟨nd, nm, l⟩ := ⟨rfl, rfl, ha6⟩
  refine zs_appendO rfl (by rfl) (by decide) (by first | exact want_none | exact want_L rfl) (by decide) rfl rfl hO7 (RdS.mark hx hN7) (by omega) (by omega) (fun v8 w8 hO8 hC8 hr8 => ?_)
  have hg8 := (hg2.no hC7).chg hC8 (fun he => by cases he)
  have hb8 := (hb2.no hC7).chg hC8 (fun he => by cases he)
  refine ⟨⟨hg8, hb8⟩, ?_⟩
  have hK6 := (K47.no hN7.chg).trans (K47.own hO7 (by decide) hC8)
  have hne8 : v8.ownBlock ≠ some g := fun he => hO8.ne he hg8 (by decide) rfl
  obtain ⟨A8, c8, rfl, hc8⟩ := hO8.rd.form
  refine zs_plainL rfl rfl ?_
  refine zs_rdL rfl want_none rfl (by decide) (fun _ hS => r_fa rfl) ?_
  refine zs_storeL rfl (by first | exact want_none | exact want_L rfl) rfl rfl rfl (by assumption) (by first | exact Nat.le_refl _ | simp [Value.cells]) (by simp [Value.cells, Value.oneCell']) (fun w9 hU9 => ?_)
  skip
  have hW9 : Wr w3 w9 g (.slice none 0 0) (.slice A8 1 c8) := ⟨((hC7.mono (fun _ _ h => h.elim)).trans hC8 (fun _ _ h => .inr h)).trans hU9.chg (fun _ _ h => .inl h), hr8.imp id (fun ⟨k, h1, h2⟩ => ⟨k, h1, by have := hC7.size; omega⟩)⟩
  refine zk_ret0 (.inl rfl) rfl ⟨rfl, _, ⟨nd, nm, .slice A6 l.length c6⟩, hU9.blk, ?_, (hx.keep hK6).keep (K47.upd hU9 (by decide)), ?_, Wr.pre hCw hW9⟩
  · exact hO8.chg hU9.chg (fun k hk he => hne8 (he ▸ hk))
  · intro k hk
    have := hn6 k hk
    have := hCw.size
    have := hC1.size
    omega
theorem eq_attrT {w : World} {a b : ByteArray} (k : Nat) : (Op.equalIn (k + 5) 47 (.agg #[.string a, .string b]) (.agg #[.string a, .string b])).run Try.prog w = .ok true w := by
  have := eq_attr (w := w) (a := a) (b := b) (c := a) (d := b) k
  simpa using this
set_option maxHeartbeats 8000000 in
theorem MarksOwn_walk (k : Int) (w : World) : Calls Try.prog 7 #[.int .i64 k] w fun e w' => e = .returned (.bool true) ∧ RowKit.Below w.heap.size w w' := by
  show Calls Try.prog 7 [Value.int .i64 k].toArray w _
  refine calls_zc (n := 70) (f := 7) (fn := Try.f7) Try.func7 rfl rfl (by simp) ?_
  refine zc_seq ?_
  refine zc_region ?_
  refine zl_pureL rfl ?_
  refine zl_nil ?_
  refine zk_seq ?_
  iterate 2 (refine zc_seq ?_)
  refine zc_region ?_
  refine zl_call (by first | exact want_none | exact want_L rfl) rfl (by decide) rfl known_calls ?_
  rintro _ w1 ⟨rfl, hC1⟩
  refine ⟨_, rfl, ?_⟩
  refine zl_pureL rfl ?_
  refine zl_nil ?_
  refine zk_seq ?_
  refine zc_false rfl ?_
  refine zc_skip ?_
  refine zk_seq ?_
  refine zc_seq ?_
  refine zc_region ?_
  refine zl_call (by first | exact want_none | exact want_L rfl) rfl (by decide) rfl new_calls ?_
  rintro _ w2 ⟨g, rfl, hI, hC2, hge⟩
  refine ⟨_, rfl, ?_⟩
  have hC2 := hC1.no hC2
  refine zl_pureL rfl ?_
  refine zl_nil ?_
  refine zk_seq ?_
  iterate 2 (refine zc_seq ?_)
  refine zc_region ?_
  refine zl_pureL rfl ?_
  refine z_eqPN (by first | exact want_none | exact want_L rfl) (by decide) rfl rfl ?_
  refine zl_nil ?_
  refine zk_seq ?_
  refine zc_false rfl ?_
  refine zc_skip ?_
  refine zk_seq ?_
  refine zc_seq ?_
  refine zc_region ?_
  refine z_buildE #[.string ⟨#[97]⟩, .string ⟨#[49]⟩] (by first | exact want_none | exact want_L rfl) (by decide) rfl (by kernel_rfl) ?_
  refine z_bs1 (by first | exact want_none | exact want_L rfl) (by decide) rfl (by rfl) (by rfl) (by decide) (by decide) (fun w3 b3 hN3 => ?_)
  have hb3 : Blk w3 b3 47 [.string ⟨#[97]⟩, .string ⟨#[49]⟩] := hN3.blk
  have ha3 : AttrS w3 (.slice (some ⟨b3, 0, none⟩) 1 1) [(⟨#[97]⟩, ⟨#[49]⟩)] := New.attr hN3 _ rfl 1 rfl
  refine zl_pureL rfl ?_
  refine zl_nil ?_
  refine zk_seq ?_
  refine zc_seq ?_
  refine zc_region ?_
  iterate 2 (refine zl_pureL rfl ?_)
  refine zl_call (by first | exact want_none | exact want_L rfl) rfl (by decide) rfl (name_calls k) ?_
  rintro _ w4 ⟨rfl, hC4⟩
  refine ⟨_, rfl, ?_⟩
  have hC34 := hN3.chg.no hC4
  refine zl_pureL rfl ?_
  refine z_buildE #[.int .i64 1, .string (nameN k), .slice (some ⟨b3, 0, none⟩) 1 1] (by first | exact want_none | exact want_L rfl) (by decide) rfl (by kernel_rfl) ?_
  have hI4 := hI.no hC34
  refine zl_call (by first | exact want_none | exact want_L rfl) rfl (by decide) rfl (push1_calls hI4 (ha3.no hC4) (by decide)) ?_
  rintro _ w5 ⟨rfl, v5, m5, hg5, hO5, hx5, hn5, hW5⟩
  refine ⟨_, rfl, ?_⟩
  have hb5 := hW5.other hI4 (hb3.no hC4) (by decide) (by decide)
  refine zl_nil ?_
  refine zk_seq ?_
  refine zc_seq ?_
  refine zc_region ?_
  refine zl_pureL rfl ?_
  refine z_ia want_none (by decide) rfl rfl (by omega) (by omega) ?_
  refine z_fa want_none (by decide) rfl ?_
  refine z_store (by first | exact want_none | exact want_L rfl) rfl rfl rfl (by assumption) (by first | exact Nat.le_refl _ | simp [Value.cells]) (by simp [Value.cells, Value.oneCell']) (fun w6 hU6 => ?_)
  have hb3lt : b3 < w4.heap.size := (hb3.no hC4).lt
  have hI6 : IsM w6 62 g v5 [⟨1, nameN k, [(⟨#[97]⟩, ⟨#[49]⟩)]⟩] := by
    refine IsM.mk' (ms := [m5]) (hg5.upd hU6 (by decide)) (hO5.upd hU6 (by decide)) rfl rfl (All2.one ⟨hx5.1, hx5.2.1, hx5.2.2.fresh hn5 hU6.chg (fun j hj => by subst hj; exact hb3lt)⟩)
  have hF6 : Fr w w6 62 g v5 [⟨1, nameN k, [(⟨#[97]⟩, ⟨#[49]⟩)]⟩] := by
    have hC24 := hC2.no hC34
    refine ⟨hI6, by have := hC1.size; omega, ?_, ?_⟩
    · intro j hj
      rcases hW5.row with h1 | ⟨q, h1, h2⟩
      · rw [hj] at h1; cases h1
      · rw [hj] at h1; cases h1; have := hC24.size; omega
    · refine (hC24.trans hW5.chg ?_).upd hU6 (by have := hN3.at_; have := hC2.size; omega)
      rintro i hi (rfl | he)
      · have := hC1.size; omega
      · cases he
  have hf6 : ∀ m ∈ [(⟨1, nameN k, [(⟨#[97]⟩, ⟨#[49]⟩)]⟩ : Mark)], m.attrs.length ≤ 100000 := fun m hm => by
    simp only [List.mem_singleton] at hm; subst hm; simp
  refine zl_nil ?_
  refine zk_seq ?_
  refine zc_seq ?_
  refine zc_region ?_
  refine zl_pureL rfl ?_
  refine zl_call (by first | exact want_none | exact want_L rfl) rfl (by decide) rfl (all_calls hF6.is (by simp) hf6) ?_
  rintro _ w7 ⟨vo, rfl, hT, hC7⟩
  refine ⟨_, rfl, ?_⟩
  obtain ⟨A7, c7, hvo, hc7⟩ := hT.len
  obtain rfl : vo = .slice A7 1 c7 := hvo
  obtain ⟨mt, hOt, hAt, hnt, hnat⟩ := hT
  have hmt := hAt.length
  obtain ⟨bt, ot, ct, hvt, _, hct⟩ := hOt.rd.some (by rw [hmt]; simp)
  obtain ⟨e1, e2, e3⟩ := encM_get mt 0 (by rw [hmt]; simp)
  obtain ⟨g1, g2, g3⟩ := hAt.get MV.z Mark.z 0 (by simp)
  have hnm := hnat _ (getD_mem (d := MV.z) (show 0 < mt.length by rw [hmt]; simp))
  have c3 := hct _ _ e3
  rw [show mt.length = 1 from hmt] at hvt
  cases hvt
  obtain ⟨a1, a2, Aa, ca, a3, a4, a5⟩ := g3
  obtain ⟨ba, oa, cells, a6, a7, a8⟩ := a5 (by simp)
  rw [a6] at a3
  have a3 : (mt.getD 0 MV.z).attrs = .slice (some ⟨ba, oa, none⟩) 1 ca := a3
  rw [a3] at c3
  refine zl_pureL rfl ?_
  refine zl_nil ?_
  refine zk_seq ?_
  iterate 2 (refine zc_seq ?_)
  refine zc_region ?_
  refine zl_pureL rfl ?_
  refine z_len want_none (by decide) rfl ?_
  refine z_cmpB (r := false) want_none (by decide) rfl rfl rfl (iff_of_false Bool.false_ne_true (by omega)) ?_
  iterate 2 (refine zl_pureL rfl ?_)
  refine z_ia (want_L rfl) (by decide) rfl rfl (by omega) (by omega) ?_
  refine z_fa (want_L rfl) (by decide) rfl ?_
  refine z_load1 (want_L rfl) (by decide) rfl (by assumption) ?_
  refine z_len (want_L rfl) (by decide) rfl ?_
  refine z_cmpB (r := false) (want_L rfl) (by decide) rfl rfl rfl (iff_of_false Bool.false_ne_true (by omega)) ?_
  refine zl_pureL rfl ?_
  refine zl_nil ?_
  refine zk_seq ?_
  refine zc_false rfl ?_
  refine zc_skip ?_
  refine zk_seq ?_
  refine zc_seq ?_
  refine zc_region ?_
  refine zl_pureL rfl ?_
  refine z_ia want_none (by decide) rfl rfl (by omega) (by omega) ?_
  refine z_fa want_none (by decide) rfl ?_
  refine z_load1 want_none (by decide) rfl (by assumption) ?_
  refine z_ia want_none (by decide) rfl rfl (by omega) (by omega) ?_
  refine z_fa want_none (by decide) rfl ?_
  have hlt := (List.getElem?_eq_some_iff.1 (a8 0 (.string ⟨#[97]⟩) rfl)).1
  have hba : w6.heap.size ≤ ba := hnm ba (by rw [a3]; rfl)
  refine z_store (o := oa) (by first | exact want_none | exact want_L rfl) (ev_ptr rfl (by simp)) rfl rfl a7 (by show oa + 1 ≤ cells.length; omega) (by simp [Value.cells, Value.oneCell']) (fun w8 hU8 => ?_)
  have hC8 := hC7.upd hU8 hba
  have hF8 := hF6.no hC8
  refine zl_nil ?_
  refine zk_seq ?_
  refine zc_seq ?_
  refine zc_region ?_
  refine zl_pureL rfl ?_
  refine zl_call (by first | exact want_none | exact want_L rfl) rfl (by decide) rfl (at_calls hF8.is (by simp) hf6 0 (by simp)) ?_
  rintro _ w9 ⟨av, rfl, ha9, hn9, hC9⟩
  refine ⟨_, rfl, ?_⟩
  obtain ⟨A9, c9, hv9, hc9⟩ := ha9.form
  obtain rfl : av = .slice A9 1 c9 := hv9
  obtain ⟨b9, o9, c9', hv9, d0, d1⟩ := ha9.at_ 0 (by simp)
  cases hv9
  iterate 3 (refine zl_pureL rfl ?_)
  refine z_alloc (by first | exact want_none | exact want_L rfl) (by decide) (fun w10 b10 hN10 => ?_)
  have hb10 := hN10.blk
  refine z_store (by first | exact want_none | exact want_L rfl) rfl rfl rfl (by assumption) (by first | exact Nat.le_refl _ | simp [Value.cells]) (by simp [Value.cells, Value.oneCell']) (fun w11 hU11 => ?_)
  have hb11 : Blk w11 b10 32 [.int .i64 1, .string (nameN k), .slice (some ⟨b9, o9, none⟩) 1 c9] := hU11.blk
  have hC11 := hN10.chg.upd hU11 (hN10.ge (Chg.refl _ No))
  have hF11 := (hF8.no hC9).no hC11
  have d0 := cell_no hC11 d0
  have d1 := cell_no hC11 d1
  refine zl_pureL rfl ?_
  refine zl_nil ?_
  refine zk_seq ?_
  refine zc_seq ?_
  refine zc_draw [] (fun w' => Chg w11 w' No ∧ Blk w' b10 32 [.int .i64 1, .string (nameN k), .slice (some ⟨b9, o9, none⟩) 1 c9]) (.take 0 (.take 1 (.take 2 (.take 3 (.take 4 (.take 5 (.take 6 (.take 7 (.take 8 (.take 9 (.take 10 (.take 11 (.take 12 (.take 13 (.take 14 (.take 15 (.take 16 (.take 17 (.take 18 (.all1 19 (.take 20 (.take 21 (.take 22 (.fin)))))))))))))))))))))))) (by rfl) (by kernel_rfl) (by kernel_rfl) (fun w1 hC1 hH1 => ⟨?_, ?_⟩)
  · exact ⟨hC1, hb11.no hC1⟩
  iterate 2 (refine zs_take rfl (zt_pure rfl ?_))
  refine zs_rdL rfl (want_L rfl) rfl (by decide) (fun _ hS => r_fa rfl) ?_
  refine zs_rdL rfl (want_L rfl) rfl (by decide) (fun _ hS => r_loadB rfl hS.2 (by rfl)) ?_
  refine zs_rdL rfl (want_L rfl) rfl (by decide) (fun _ hS => r_len rfl) ?_
  refine zs_rdL rfl (want_L rfl) rfl (by decide) (fun _ hS => r_cmpB (r := true) rfl rfl rfl (iff_of_true rfl (by omega))) ?_
  iterate 2 (refine zs_take rfl (zt_pure rfl ?_))
  refine zs_rdL rfl (want_L rfl) rfl (by decide) (fun _ hS => r_fa rfl) ?_
  refine zs_rdL rfl (want_L rfl) rfl (by decide) (fun _ hS => r_loadB rfl hS.2 (by rfl)) ?_
  refine zs_rdL rfl (want_L rfl) rfl (by decide) (fun _ hS => r_ia rfl rfl (by omega) (by omega)) ?_
  refine zs_rdL rfl (by first | exact want_none | exact want_L rfl) rfl (by decide) (fun _ hS => r_loadA (by rfl) rfl (agg2 (cell_no hS.1 d0) (cell_no hS.1 d1) (by omega))) ?_
  refine zs_rdL rfl (by first | exact want_none | exact want_L rfl) rfl (by decide) (fun _ hS => r_build' (cells := #[.string ⟨#[97]⟩, .string ⟨#[49]⟩]) rfl (by kernel_rfl)) ?_
  refine zs_rdL rfl (by first | exact want_none | exact want_L rfl) rfl (by decide) (fun _ hS => r_eqA (r := true) rfl rfl (by kernel_rfl) (fun d => eq_attrT d)) ?_
  iterate 2 (refine zs_take rfl (zt_pure rfl ?_))
  refine zs_rdL rfl (want_L rfl) rfl (by decide) (fun _ hS => r_fa rfl) ?_
  refine zs_rdL rfl (want_L rfl) rfl (by decide) (fun _ hS => r_loadB rfl hS.2 (by rfl)) ?_
  refine zs_take rfl (zt_pure rfl ?_)
  refine zs_call rfl (by first | exact want_none | exact want_L rfl) rfl (by decide) rfl (name_calls k) ?_
  rintro _ w13 ⟨rfl, hC13⟩
  refine ⟨_, rfl, ⟨hC1.no hC13, hb11.no (hC1.no hC13)⟩, ?_⟩
  refine zs_rdL rfl (by first | exact want_none | exact want_L rfl) rfl (by decide) (fun _ hS => r_eqS1 rfl rfl rfl) ?_
  iterate 2 (refine zs_take rfl (zt_pure rfl ?_))
  refine zs_fin ?_
  refine zk_seq ?_
  refine zc_ret ?_
  exact zk_ret1 (.inr rfl) rfl rfl ⟨rfl, ((hF11.chg.no hC1).no hC13).below⟩
end Go.Proofs.Ytaagolhokejflaa.M
