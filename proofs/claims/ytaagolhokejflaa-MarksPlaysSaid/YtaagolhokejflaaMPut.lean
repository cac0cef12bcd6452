import Derived.Test.YtaagolhokejflaaMSet
/- Put. -/
namespace Go.Proofs.Ytaagolhokejflaa.M
open Go Go.Z Go.Proofs
set_option linter.unusedVariables false
def putM (L : List Mark) (i : Nat) (x : Mark) : List Mark := L.take i ++ x :: L.drop i
def Mark.nil : Mark := ⟨0, ⟨#[]⟩, []⟩
theorem put_list {α : Type} (L : List α) (z x : α) (i : Nat) (hi : i ≤ L.length) : ((L ++ [z]).take (i + 1) ++ ((L ++ [z]).drop i).take (L.length - i) ++ (L ++ [z]).drop (L.length + 1)).set i x = L.take i ++ x :: L.drop i := by
  have h1 : ((L ++ [z]).drop i).take (L.length - i) = L.drop i := by
    rw [List.drop_append_of_le_length hi, List.take_append_of_le_length (by simp), List.take_of_length_le (by simp)]
  have h2 : (L ++ [z]).drop (L.length + 1) = [] := List.drop_eq_nil_of_le (by simp)
  rw [h1, h2, List.append_nil, List.set_append_left _ _ (by simp; omega)]
  rw [List.set_eq_take_append_cons_drop, if_pos (by rw [List.length_take]; simp; omega), List.take_take, Nat.min_eq_left (by omega), List.take_append_of_le_length hi, List.drop_of_length_le (by simp; omega)]
  simp
set_option maxHeartbeats 8000000 in
theorem put_calls {w : World} {g : Nat} {v av : Value} {L : List Mark} {nd : Int} {nm : ByteArray} {l : List At} (h : IsM w 62 g v L) (hl : L.length ≤ 100000) (ha : AttrS w av l) (hal : l.length ≤ 100000) (i : Nat) (hi : i ≤ L.length) :
    Calls Try.prog 27 [Value.pointer (some ⟨g, 0, none⟩), .int .i64 i, .agg #[.int .i64 nd, .string nm, av]].toArray w fun e w' => e = .returned (.bool true) ∧ ∃ v', IsM w' 62 g v' (putM L i ⟨nd, nm, l⟩) ∧ Wr w w' g v v' := by
  obtain ⟨A2, c2, hv2, hc2⟩ := ha.form
  subst hv2
  have hne := h.ne (by decide)
  obtain ⟨A0, c0, hv0, hc0⟩ := h.form
  subst hv0
  have h0 := h
  obtain ⟨hg, ms, hO, hA⟩ := h
  have hlen := hA.length
  refine calls_zc (n := 50) (f := 27) (fn := Try.f27) Try.func27 rfl rfl (by simp) ?_
  refine zc_seq ?_
  refine zc_region ?_
  refine z_box (by first | exact want_none | exact want_L rfl) (by decide) rfl (fun w1 b1 hN1 => ?_)
  have hb1 : Blk w1 b1 32 [.int .i64 nd, .string nm, .slice A2 l.length c2] := hN1.blk
  have hg1 := hg.no hN1.chg
  have hx : MR w1 ⟨0, ⟨#[]⟩, .slice none 0 0⟩ Mark.nil := ⟨rfl, rfl, AttrS.nil w1⟩
  refine zl_pureL rfl ?_
  refine zl_nil ?_
  refine zk_seq ?_
  iterate 2 (refine zc_seq ?_)
  refine zc_region ?_
  refine zl_pureL rfl ?_
  refine z_cmpB (r := false) want_none (by decide) rfl rfl rfl (iff_of_false Bool.false_ne_true (by omega)) ?_
  iterate 4 (refine zl_pureL rfl ?_)
  refine z_fa (want_L rfl) (by decide) rfl ?_
  refine z_loadB (want_L rfl) (by decide) rfl (by assumption) (by rfl) ?_
  refine z_len (want_L rfl) (by decide) rfl ?_
  refine z_cmpB (r := false) (want_L rfl) (by decide) rfl rfl rfl (iff_of_false Bool.false_ne_true (by omega)) ?_
  refine zl_pureL rfl ?_
  refine zl_nil ?_
  refine zk_seq ?_
  refine zc_false rfl ?_
  refine zc_skip ?_
  refine zk_seq ?_
  refine zc_seq ?_
  refine zc_region ?_
  iterate 3 (refine zl_pureL rfl ?_)
  refine z_fa want_none (by decide) rfl ?_
  refine z_loadB want_none (by decide) rfl (by assumption) (by rfl) ?_
  refine z_buildE #[.int .i64 0, .string ⟨#[]⟩, .slice none 0 0] (by first | exact want_none | exact want_L rfl) (by decide) rfl (by kernel_rfl) ?_
  refine z_bs1 (by first | exact want_none | exact want_L rfl) (by decide) rfl (by rfl) (by rfl) (by decide) (by decide) (fun w2 b2 hN2 => ?_)
  have hN12 := hN1.chg.new hN2
  have hO2 := hO.no hN12
  rw [hlen] at hO2
  refine z_appendO (by rfl) (by decide) (by first | exact want_none | exact want_L rfl) (by decide) rfl rfl hO2 (RdS.mark hx hN2) (by omega) (by omega) (fun v3 w3 hO3 hC3 hr3 => ?_)
  have hC13 : Chg w w3 (foot g (.slice A0 L.length c0)) := (hN12.mono (fun _ _ h => h.elim)).trans hC3 (fun _ _ h => .inr h)
  have hg3 := (hg.no hN12).chg hC3 hne
  have hne3 : v3.ownBlock ≠ some g := fun he => hO3.ne he hg3 (by decide) rfl
  have hK := (K47.no hN12).trans (K47.own hO2 (by decide) hC3)
  have hb1' := (hb1.no hN2.chg).chg hC3 (fun he => by have := hO.lt he; have := hN1.at_; omega)
  obtain ⟨A3, c3, rfl, hc3⟩ := hO3.rd.form
  refine zl_pureL rfl ?_
  refine z_fa want_none (by decide) rfl ?_
  refine z_store (by first | exact want_none | exact want_L rfl) rfl rfl rfl (by assumption) (by first | exact Nat.le_refl _ | simp [Value.cells]) (by simp [Value.cells, Value.oneCell']) (fun w4 hU4 => ?_)
  have hK4 := hK.trans (K47.upd hU4 (by decide))
  have hb4 : Blk w4 b1 32 [.int .i64 nd, .string nm, .slice A2 l.length c2] := hb1'.upd hU4 (by decide)
  have hW4 : Wr w w4 g (.slice A0 L.length c0) (.slice A3 (L.length + 1) c3) := ⟨hC13.trans hU4.chg (fun _ _ h => .inl h), hr3.imp id (fun ⟨k, h1, h2⟩ => ⟨k, h1, by have := hN12.size; omega⟩)⟩
  have hI4 : IsM w4 62 g (.slice A3 (L.length + 1) c3) (L ++ [Mark.nil]) := by
    refine IsM.mk' (ms := ms ++ [⟨0, ⟨#[]⟩, .slice none 0 0⟩]) hU4.blk (hO3.chg hU4.chg (fun k hk he => hne3 (he ▸ hk))) (by simp; omega) (encM_app _ _).symm ?_
    exact All2.append (all2_keep hA hK4) (All2.one ⟨rfl, rfl, AttrS.nil w4⟩)
  have ha4 := ha.keep hK4
  have hMl : (L ++ [Mark.nil]).length = L.length + 1 := by simp
  obtain ⟨b, c, _, hv5, _⟩ := hI4.at_ 0 (by omega)
  rw [hMl] at hv5
  cases hv5
  refine zl_nil ?_
  refine zk_seq ?_
  refine zc_seq ?_
  have hmin : Nat.min (L.length + 1 - i) (L.length + 1 - (i + 1)) = L.length - i := by rw [show L.length + 1 - (i + 1) = L.length - i by omega]; exact Nat.min_eq_right (by omega)
  have hg4 := hI4.1
  refine zc_draw [] (fun w' => Blk w' g 62 [.slice (some ⟨b, 0, none⟩) (L.length + 1) c3]) (.take 0 (.take 1 (.take 2 (.take 3 (.take 4 (.take 5 (.take 6 (.take 7 (.take 8 (.take 9 (.take 10 (.take 11 (.take 12 (.all1 13 (.fin))))))))))))))) (by rfl) (by kernel_rfl) (by kernel_rfl) (fun w1 hC1 hH1 => ⟨?_, ?_⟩)
  · exact hg4.no ‹_›
  have hI5 := hI4.no hC1
  have hg5 := hI5.1
  rw [← hMl] at hI5
  obtain ⟨enc, cells, hR, hB, hfit, hsh⟩ := hI5.shift (by decide) (i + 1) i (L.length - i) (by omega) (by omega)
  rw [hMl] at hR hsh
  iterate 2 (refine zs_take rfl (zt_pure rfl ?_))
  refine zs_rdL rfl want_none rfl (by decide) (fun _ hS => r_fa rfl) ?_
  refine zs_rdL rfl want_none rfl (by decide) (fun _ hS => r_loadB rfl hS (by rfl)) ?_
  refine zs_take rfl (zt_pure rfl ?_)
  refine zs_rdL rfl want_none rfl (by decide) (fun _ hS => r_add rfl rfl (by omega) (by omega)) ?_
  refine zs_rdL rfl (by first | exact want_none | exact want_L rfl) rfl (by decide) (fun _ hS => r_cutFrom (k := i + 1) rfl rfl (by omega) (by omega)) ?_
  iterate 2 (refine zs_take rfl (zt_pure rfl ?_))
  refine zs_rdL rfl want_none rfl (by decide) (fun _ hS => r_fa rfl) ?_
  refine zs_rdL rfl want_none rfl (by decide) (fun _ hS => r_loadB rfl hS (by rfl)) ?_
  refine zs_take rfl (zt_pure rfl ?_)
  refine zs_rdL rfl (by first | exact want_none | exact want_L rfl) rfl (by decide) (fun _ hS => r_cutFrom (k := i) rfl rfl (by omega) (by omega)) ?_
  skip
  refine zs_copyG (o := (i + 1) * 3) rfl (by first | exact want_none | exact want_L rfl) (by decide) rfl rfl (hR.cut (k := i) (by omega)) hB (fun _ => by rw [cutA_at (by omega), Nat.zero_add]) (by rw [hmin]; omega) (fun w6 hU6 => ?_)
  rw [hmin] at hU6
  have hI6 := hsh w6 hU6
  have hg6 := hI6.1
  refine ⟨hg6, ?_⟩
  refine zs_fin ?_
  refine zk_seq ?_
  refine zc_seq ?_
  have hC16 : Chg w1 w6 (fun k => k = b) := hU6.chg
  have hI6l : ((L ++ [Mark.nil]).take (i + 1) ++ ((L ++ [Mark.nil]).drop i).take (L.length - i) ++ (L ++ [Mark.nil]).drop (i + 1 + (L.length - i))).length = L.length + 1 := by simp; omega
  have hb6 : Blk w6 b1 32 [.int .i64 nd, .string nm, .slice A2 l.length c2] := (hb4.no hC1).chg hU6.chg (fun he => by
    rcases hr3 with h1 | ⟨k, h1, h2⟩
    · have := hO.lt (k := b) (h1 ▸ rfl); have := hN1.at_; omega
    · simp only [Value.ownBlock, Option.some.injEq] at h1; have := hN1.at_; have := hN1.size; have := hN2.size; omega)
  have ha6 : AttrS w6 (.slice A2 l.length c2) l := (ha4.no hC1).keep (K47.upd hU6 (by decide))
  have hW6 : Wr w w6 g (.slice A0 L.length c0) (.slice (some ⟨b, 0, none⟩) (L.length + 1) c3) := (hW4.no hC1).trans ⟨hU6.chg.mono (fun _ _ h => .inr (by rw [h]; rfl)), .inl rfl⟩
  refine zc_draw [8] (fun w' => Blk w' g 62 [.slice (some ⟨b, 0, none⟩) (L.length + 1) c3] ∧ Blk w' b1 32 [.int .i64 nd, .string nm, .slice A2 l.length c2]) (.take 0 (.take 1 (.take 2 (.take 3 (.take 4 (.take 5 (.all1 6 (.take 7 (.last 8))))))))) (by rfl) (by kernel_rfl) (by kernel_rfl) (fun w1 hC1 hH1 => ⟨?_, ?_⟩)
  · exact ⟨hg6.no ‹_›, hb6.no ‹_›⟩
  iterate 2 (refine zs_take rfl (zt_pure rfl ?_))
  refine zs_rdL rfl want_none rfl (by decide) (fun _ hS => r_fa rfl) ?_
  refine zs_rdL rfl want_none rfl (by decide) (fun _ hS => r_loadB rfl hS.1 (by rfl)) ?_
  refine zs_take rfl (zt_pure rfl ?_)
  refine zs_rdL rfl want_none rfl (by decide) (fun _ hS => r_loadAB rfl hS.2 (by rfl)) ?_
  refine zs_call rfl (by first | exact want_none | exact want_L rfl) rfl (by decide) rfl (own_calls (ha6.no hC1) hal) ?_
  rintro _ w8 ⟨v8, rfl, ha8, hn8, hC8⟩
  obtain ⟨A8, c8, hv8, hc8⟩ := ha8.form
  subst hv8
  have hC68 := hC1.no hC8
  have hI8 := hI6.no hC68
  rw [← hI6l] at hI8
  obtain ⟨cells8, hB8, hfit8, hset⟩ := hI8.setAt (by decide) (m := ⟨nd, nm, _⟩) (x := ⟨nd, nm, l⟩) ⟨rfl, rfl, ha8⟩ i (by omega)
  refine ⟨_, rfl, ⟨hg6.no hC68, hb6.no hC68⟩, ?_⟩
  refine zs_rdL rfl want_none rfl (by decide) (fun _ hS => r_ia rfl rfl (by omega) (by omega)) ?_
  refine zs_storeL (o := i * 3) rfl (by first | exact want_none | exact want_L rfl) (ev_ptr rfl (by omega)) rfl rfl hB8 hfit8 (by simp [Value.cells, Value.oneCell']) (fun w9 hU9 => ?_)
  have hI9 := hset w9 hU9
  rw [hI6l, show i + 1 + (L.length - i) = L.length + 1 by omega, put_list L _ _ i hi] at hI9
  refine zk_seq ?_
  refine zc_seq ?_
  refine zc_region ?_
  refine zl_pureL rfl ?_
  refine zl_nil ?_
  refine zk_seq ?_
  refine zc_ret ?_
  refine zk_ret1 (.inr rfl) rfl rfl ⟨rfl, _, hI9, (hW6.no hC68).trans ⟨hU9.chg.mono (fun _ _ h => .inr (by rw [h]; rfl)), .inl rfl⟩⟩
end Go.Proofs.Ytaagolhokejflaa.M
