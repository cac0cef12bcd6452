import Derived.Test.YtaagolhokejflaaMWr
/- Set. -/
namespace Go.Proofs.Ytaagolhokejflaa.M
open Go Go.Z Go.Proofs
set_option linter.unusedVariables false
theorem IsM.setAt {w : World} {st g b c : Nat} {L : List Mark} {m : MV} {x : Mark} (h : IsM w st g (.slice (some ⟨b, 0, none⟩) L.length c) L) (hst : st ≠ 32) (hx : MR w m x) (i : Nat) (hi : i < L.length) :
    ∃ cells : List Value, Blk w b 32 cells ∧ i * 3 + 3 ≤ cells.length ∧ ∀ w', Upd w w' b 32 (Z.lay cells (i * 3) (mval m).cells.toList) → IsM w' st g (.slice (some ⟨b, 0, none⟩) L.length c) (L.set i x) := by
  have hne := h.ne hst
  obtain ⟨hg, ms, hO, hA⟩ := h
  have hlen := hA.length
  have hel := encM_len ms
  have hone : ∀ u ∈ encM [m], u.oneCell' = true := by
    obtain ⟨A, c, hv, _⟩ := hx.2.2.form
    intro u hu
    simp only [encM, List.mem_cons, List.not_mem_nil, or_false] at hu
    rcases hu with rfl | rfl | rfl
    · rfl
    · rfl
    · rw [hv]; rfl
  rw [hlen] at hO
  obtain ⟨cells, hB, hfit, hpre, hnew⟩ := hO.lay (o := i * 3) (vs := encM [m]) (by rw [encM_len]; simp; omega) hone
  rw [encM_len] at hfit
  refine ⟨cells, hB, by simpa using hfit, fun w' hU => ?_⟩
  have hO2 := hnew w' hU
  refine IsM.mk' (ms := ms.set i m) (hg.chg hU.chg (fun he => hne (by rw [he]; rfl))) hO2 (by simp; omega) ?_ ?_
  · rw [List.set_eq_take_append_cons_drop, if_pos (by omega), List.append_cons, encM_app, encM_app, encM_take, encM_drop]
    unfold Z.lay
    rw [encM_len]
    simp [Nat.add_mul]
  · have hK := K47.upd hU (by decide)
    rw [List.set_eq_take_append_cons_drop, if_pos (by omega), List.set_eq_take_append_cons_drop, if_pos hi]
    have hA2 := all2_keep hA hK
    exact (hA2.take i).append ⟨hx.keep hK, hA2.drop (i + 1)⟩
/-- a copy within the row: q elements from k on to j on -/
theorem IsM.shift {w : World} {st g b c : Nat} {L : List Mark} (h : IsM w st g (.slice (some ⟨b, 0, none⟩) L.length c) L) (hst : st ≠ 32) (j k q : Nat) (hj : j + q ≤ L.length) (hk : k + q ≤ L.length) :
    ∃ enc cells : List Value, RdS w 32 3 (.slice (some ⟨b, 0, none⟩) L.length c) L.length enc ∧ Blk w b 32 cells ∧ j * 3 + q * 3 ≤ cells.length ∧ ∀ w', Upd w w' b 32 (Z.lay cells (j * 3) ((enc.drop (k * 3)).take (q * 3))) →
      IsM w' st g (.slice (some ⟨b, 0, none⟩) L.length c) (L.take j ++ (L.drop k).take q ++ L.drop (j + q)) := by
  have hne := h.ne hst
  obtain ⟨hg, ms, hO, hA⟩ := h
  have hlen := hA.length
  have hel := encM_len ms
  rw [hlen] at hO
  have hvl : (((encM ms).drop (k * 3)).take (q * 3)).length = q * 3 := by rw [List.length_take, List.length_drop]; omega
  obtain ⟨cells, hB, hfit, hpre, hnew⟩ := hO.lay (o := j * 3) (vs := ((encM ms).drop (k * 3)).take (q * 3)) (by omega) (fun u hu => hO.2 u (List.mem_of_mem_drop (List.mem_of_mem_take hu)))
  refine ⟨encM ms, cells, hO.rd, hB, by omega, fun w' hU => ?_⟩
  have hO2 := hnew w' hU
  refine IsM.mk' (ms := ms.take j ++ (ms.drop k).take q ++ ms.drop (j + q)) (hg.chg hU.chg (fun he => hne (by rw [he]; rfl))) hO2 (by simp; omega) ?_ ?_
  · unfold Z.lay
    rw [encM_app, encM_app, encM_take, encM_take, encM_drop, encM_drop, hvl, Nat.add_mul]
  · have hA2 := all2_keep hA (K47.upd hU (by decide))
    exact ((hA2.take j).append ((hA2.drop k).take q)).append (hA2.drop (j + q))
set_option maxHeartbeats 4000000 in
theorem set_calls {w : World} {g : Nat} {v av : Value} {L : List Mark} {nd : Int} {nm : ByteArray} {l : List At} (h : IsM w 62 g v L) (hl : L.length ≤ 100000) (ha : AttrS w av l) (hal : l.length ≤ 100000) (i : Nat) (hi : i < L.length) :
    Calls Try.prog 29 [Value.pointer (some ⟨g, 0, none⟩), .int .i64 i, .agg #[.int .i64 nd, .string nm, av]].toArray w fun e w' => e = .returned (.bool true) ∧ ∃ v', IsM w' 62 g v' (L.set i ⟨nd, nm, l⟩) ∧ Wr w w' g v v' := by
  obtain ⟨b, c, A0, hv, _⟩ := h.at_ i hi
  subst hv
  obtain ⟨A2, c2, hv2, hc2⟩ := ha.form
  subst hv2
  refine calls_zc (n := 26) (f := 29) (fn := Try.f29) Try.func29 rfl rfl (by simp) ?_
  refine zc_seq ?_
  refine zc_region ?_
  refine z_box (by first | exact want_none | exact want_L rfl) (by decide) rfl (fun w1 b1 hN1 => ?_)
  have hb1 : Blk w1 b1 32 [.int .i64 nd, .string nm, .slice A2 l.length c2] := hN1.blk
  have hg1 := (h.no hN1.chg).1
  refine zl_pureL rfl ?_
  refine zl_nil ?_
  refine zk_seq ?_
  iterate 2 (refine zc_seq ?_)
  refine zc_region ?_
  refine zl_pureL rfl ?_
  refine z_cmpB (r := false) want_none (by decide) rfl rfl rfl (iff_of_false Bool.false_ne_true (by omega)) ?_
  iterate 4 (refine zl_pureL rfl ?_)
  refine z_fa (want_L rfl) (by decide) rfl ?_
  refine z_loadB (want_L rfl) (by decide) rfl (by assumption) (by rfl) ?_
  refine z_len (want_L rfl) (by decide) rfl ?_
  refine z_cmpB (r := false) (want_L rfl) (by decide) rfl rfl rfl (iff_of_false Bool.false_ne_true (by omega)) ?_
  refine zl_pureL rfl ?_
  refine zl_nil ?_
  refine zk_seq ?_
  refine zc_false rfl ?_
  refine zc_skip ?_
  refine zk_seq ?_
  refine zc_seq ?_
  refine zc_draw [8] (fun w' => Blk w' g 62 [.slice (some ⟨b, 0, none⟩) L.length c] ∧ Blk w' b1 32 [.int .i64 nd, .string nm, .slice A2 l.length c2]) (.take 0 (.take 1 (.take 2 (.take 3 (.take 4 (.take 5 (.all1 6 (.take 7 (.last 8))))))))) (by rfl) (by kernel_rfl) (by kernel_rfl) (fun w1 hC1 hH1 => ⟨?_, ?_⟩)
  · exact ⟨hg1.no ‹_›, hb1.no ‹_›⟩
  have hC2 := hN1.chg.no hC1
  iterate 2 (refine zs_take rfl (zt_pure rfl ?_))
  refine zs_rdL rfl want_none rfl (by decide) (fun _ hS => r_fa rfl) ?_
  refine zs_rdL rfl want_none rfl (by decide) (fun _ hS => r_loadB rfl hS.1 (by rfl)) ?_
  refine zs_take rfl (zt_pure rfl ?_)
  refine zs_rdL rfl want_none rfl (by decide) (fun _ hS => r_loadAB rfl hS.2 (by rfl)) ?_
  refine zs_call rfl (by first | exact want_none | exact want_L rfl) rfl (by decide) rfl (own_calls (ha.no hC2) hal) ?_
  rintro _ w3 ⟨v3, rfl, ha3, hn3, hC3⟩
  obtain ⟨A3, c3, hv3, hc3⟩ := ha3.form
  subst hv3
  have hC13 := hC1.no hC3
  have hCw := hC2.no hC3
  obtain ⟨cells, hB, hfit, hset⟩ := (h.no hCw).setAt (by decide) (m := ⟨nd, nm, _⟩) (x := ⟨nd, nm, l⟩) ⟨rfl, rfl, ha3⟩ i hi
  refine ⟨_, rfl, ⟨hg1.no hC13, hb1.no hC13⟩, ?_⟩
  refine zs_rdL rfl want_none rfl (by decide) (fun _ hS => r_ia rfl rfl (by omega) (by omega)) ?_
  refine zs_storeL (o := i * 3) rfl (by first | exact want_none | exact want_L rfl) (ev_ptr rfl (by omega)) rfl rfl hB hfit (by simp [Value.cells, Value.oneCell']) (fun w4 hU4 => ?_)
  refine zk_seq ?_
  refine zc_seq ?_
  refine zc_region ?_
  refine zl_pureL rfl ?_
  refine zl_nil ?_
  refine zk_seq ?_
  refine zc_ret ?_
  refine zk_ret1 (.inr rfl) rfl rfl ⟨rfl, _, hset w4 hU4, Wr.pre hCw ⟨hU4.chg.mono (fun _ _ h => .inr (by rw [h]; rfl)), .inl rfl⟩⟩
end Go.Proofs.Ytaagolhokejflaa.M
