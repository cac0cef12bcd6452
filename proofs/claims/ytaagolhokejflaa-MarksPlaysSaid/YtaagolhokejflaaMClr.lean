import Derived.Test.YtaagolhokejflaaMWr
import Derived.Test.YtaagolhokejflaaMRead
/- Clear, Drop. -/
namespace Go.Proofs.Ytaagolhokejflaa.M
open Go Go.Z Go.Proofs
set_option linter.unusedVariables false
def clearN (L : List Mark) : List Mark := L.take (beginN L L.length - 1)
theorem IsM.front {w w' : World} {st g c : Nat} {A : Option Addr} {L : List Mark} (h : IsM w st g (.slice A L.length c) L) (h1 : st ≠ 47) (k : Nat) (hk : k ≤ L.length) (hU : Upd w w' g st [.slice A k c]) (hst : st ≠ 32) : IsM w' st g (.slice A k c) (L.take k) := by
  have hne := h.ne hst
  obtain ⟨hg, ms, hO, hA⟩ := h
  have hlen := hA.length
  rw [hlen] at hO
  refine IsM.mk' (ms := ms.take k) hU.blk ((hO.take k hk).chg hU.chg (fun j hj he => hne ?_)) (by rw [List.length_take]; omega) (encM_take ms k).symm ((all2_keep hA (K47.upd hU (Ne.symm h1))).take k)
  rw [← he, ← hj]
  cases A <;> rfl
theorem Upd.wr {w w' : World} {st g k m c : Nat} {A : Option Addr} (hU : Upd w w' g st [.slice A k c]) : Wr w w' g (.slice A m c) (.slice A k c) := ⟨hU.chg.mono (fun _ _ h => .inl h), .inl (by cases A <;> rfl)⟩
theorem optI_eq {x : Option Operand} {e : Env} {d a b : Int} (h : optI x e d = some a) (hab : a = b) : optI x e d = some b := by rw [h, hab]
theorem clear_calls {w : World} {g : Nat} {v : Value} {L : List Mark} (h : IsM w 62 g v L) (hl : L.length ≤ 100000) :
    Calls Try.prog 14 [Value.pointer (some ⟨g, 0, none⟩)].toArray w fun e w' => e = .returned (.tuple #[]) ∧ ∃ v', IsM w' 62 g v' (clearN L) ∧ Wr w w' g v v' := by
  obtain ⟨A, c, hv, hc⟩ := h.form
  subst hv
  have hF : Flat A := by obtain ⟨_, ms, hO, hA⟩ := h; have := hA.length; rw [this] at hO; exact hO.flat
  refine calls_zc (n := 14) (f := 14) (fn := Try.f14) Try.func14 rfl rfl (by simp) ?_
  refine zc_draw [12] (fun w' => IsM w' 62 g (.slice A L.length c) L) (.take 0 (.take 1 (.take 2 (.take 3 (.take 4 (.take 5 (.all1 6 (.take 7 (.take 8 (.take 9 (.plain 10 (.take 11 (.last 12))))))))))))) (by rfl) (by kernel_rfl) (by kernel_rfl) (fun w1 hC1 hH1 => ⟨?_, ?_⟩)
  · exact h.no hC1
  iterate 3 (refine zs_take rfl (zt_pure rfl ?_))
  refine zs_rdL rfl want_none rfl (by decide) (fun _ hS => r_fa rfl) ?_
  refine zs_rdL rfl want_none rfl (by decide) (fun _ hS => r_loadB rfl hS.1 (by rfl)) ?_
  refine zs_take rfl (zt_pure rfl ?_)
  refine zs_call rfl (by first | exact want_none | exact want_L rfl) rfl (by decide) rfl (begin_calls (h.no hC1) hl) ?_
  rintro _ w2 ⟨rfl, rfl⟩
  have h2 := h.no hC1
  have hg2 := h2.1
  refine ⟨_, rfl, h2, ?_⟩
  have hble := beginN_le L L.length
  refine zs_rdL rfl want_none rfl (by decide) (fun _ hS => r_sub rfl rfl (by omega) (by omega)) ?_
  refine zs_rdL rfl (by first | exact want_none | exact want_L rfl) rfl (by decide) (fun _ hS => r_max rfl rfl (c := ((beginN L L.length - 1 : Nat) : Int)) (by split <;> omega)) ?_
  refine zs_rdL rfl (by first | exact want_none | exact want_L rfl) rfl (by decide) (fun _ hS => r_cutTo hF rfl rfl (by omega)) ?_
  refine zs_plainL rfl rfl ?_
  refine zs_rdL rfl want_none rfl (by decide) (fun _ hS => r_fa rfl) ?_
  refine zs_storeL rfl (by first | exact want_none | exact want_L rfl) rfl rfl rfl (by assumption) (by first | exact Nat.le_refl _ | simp [Value.cells]) (by simp [Value.cells, Value.oneCell']) (fun w3 hU3 => ?_)
  skip
  exact zk_ret0 (.inl rfl) rfl ⟨rfl, _, h2.front (by decide) _ (by omega) hU3 (by decide), Wr.pre hC1 (Upd.wr hU3)⟩
def dropM (L : List Mark) (i : Nat) : List Mark := L.take i ++ L.drop (i + 1)
theorem lay_drop {α : Type} (l : List α) (i : Nat) (h : i < l.length) : (l.take i ++ l.drop (i + 1) ++ l.drop (l.length - 1)).take (l.length - 1) = l.take i ++ l.drop (i + 1) := by
  rw [List.take_append_of_le_length (by simp; omega), List.take_of_length_le (by simp; omega)]
set_option maxHeartbeats 4000000 in
theorem drop_calls {w : World} {g : Nat} {v : Value} {L : List Mark} (h : IsM w 62 g v L) (hl : L.length ≤ 100000) (i : Nat) (hi : i < L.length) :
    Calls Try.prog 28 [Value.pointer (some ⟨g, 0, none⟩), .int .i64 i].toArray w fun e w' => e = .returned (.bool true) ∧ ∃ v', IsM w' 62 g v' (dropM L i) ∧ Wr w w' g v v' := by
  obtain ⟨b, c, A0, hv, _⟩ := h.at_ i hi
  subst hv
  have hg := h.1
  have hne := h.ne (by decide)
  have h47 := h.foot47 (by decide)
  obtain ⟨_, ms, hO, hA⟩ := h
  have hlen := hA.length
  rw [hlen] at hO
  have hc : L.length ≤ c := by obtain ⟨_, _, hv, hc⟩ := hO.rd.form; cases hv; exact hc
  refine calls_zc (n := 44) (f := 28) (fn := Try.f28) Try.func28 rfl rfl (by simp) ?_
  refine zc_seq ?_
  refine zc_region ?_
  refine zl_pureL rfl ?_
  refine zl_nil ?_
  refine zk_seq ?_
  iterate 2 (refine zc_seq ?_)
  refine zc_region ?_
  refine zl_pureL rfl ?_
  refine z_cmpB (r := false) want_none (by decide) rfl rfl rfl (iff_of_false Bool.false_ne_true (by omega)) ?_
  iterate 4 (refine zl_pureL rfl ?_)
  refine z_fa (want_L rfl) (by decide) rfl ?_
  refine z_loadB (want_L rfl) (by decide) rfl (by assumption) (by rfl) ?_
  refine z_len (want_L rfl) (by decide) rfl ?_
  refine z_cmpB (r := false) (want_L rfl) (by decide) rfl rfl rfl (iff_of_false Bool.false_ne_true (by omega)) ?_
  refine zl_pureL rfl ?_
  refine zl_nil ?_
  refine zk_seq ?_
  refine zc_false rfl ?_
  refine zc_skip ?_
  refine zk_seq ?_
  refine zc_seq ?_
  refine zc_draw [] (fun w' => Blk w' g 62 [.slice (some ⟨b, 0, none⟩) L.length c]) (.take 0 (.take 1 (.take 2 (.take 3 (.take 4 (.take 5 (.take 6 (.take 7 (.take 8 (.take 9 (.take 10 (.take 11 (.take 12 (.all1 13 (.fin))))))))))))))) (by rfl) (by kernel_rfl) (by kernel_rfl) (fun w1 hC1 hH1 => ⟨?_, ?_⟩)
  · exact hg.no hC1
  iterate 2 (refine zs_take rfl (zt_pure rfl ?_))
  refine zs_rdL rfl want_none rfl (by decide) (fun _ hS => r_fa rfl) ?_
  refine zs_rdL rfl want_none rfl (by decide) (fun _ hS => r_loadB rfl hS (by rfl)) ?_
  refine zs_take rfl (zt_pure rfl ?_)
  refine zs_rdL rfl (by first | exact want_none | exact want_L rfl) rfl (by decide) (fun _ hS => r_cutFrom rfl rfl (Nat.le_of_lt hi) (by omega)) ?_
  iterate 2 (refine zs_take rfl (zt_pure rfl ?_))
  refine zs_rdL rfl want_none rfl (by decide) (fun _ hS => r_fa rfl) ?_
  refine zs_rdL rfl want_none rfl (by decide) (fun _ hS => r_loadB rfl hS (by rfl)) ?_
  refine zs_take rfl (zt_pure rfl ?_)
  refine zs_rdL rfl want_none rfl (by decide) (fun _ hS => r_add rfl rfl (by omega) (by omega)) ?_
  refine zs_rdL rfl (by first | exact want_none | exact want_L rfl) rfl (by decide) (fun _ hS => r_cutFrom (k := i + 1) rfl rfl (by omega) (by omega)) ?_
  skip
  have hO1 := hO.no hC1
  have hel := encM_len ms
  obtain ⟨cells, hB, hfit, hpre, hnew⟩ := hO1.lay (o := i * 3) (vs := (encM ms).drop ((i + 1) * 3)) (by rw [List.length_drop]; omega) (fun u hu => hO.2 u (List.mem_of_mem_drop hu))
  rw [List.length_drop] at hfit
  have hmin : Nat.min (L.length - (i + 1)) (L.length - i) = L.length - (i + 1) := Nat.min_eq_left (by omega)
  refine zs_copyG (o := i * 3) rfl (by first | exact want_none | exact want_L rfl) (by decide) rfl rfl (hO1.rd.cut (k := i + 1) (by omega)) hB (fun _ => by rw [cutA_at (by omega), Nat.zero_add]) (by rw [hmin]; omega) (fun w2 hU => ?_)
  rw [hmin, List.take_of_length_le (by rw [List.length_drop]; omega)] at hU
  have hO2 := hnew w2 hU
  have hg2 := (hg.no hC1).chg hU.chg (fun he => hne (by rw [he]; rfl))
  refine ⟨hg2, ?_⟩
  have hms : Z.lay (encM ms) (i * 3) ((encM ms).drop ((i + 1) * 3)) = encM (ms.take i ++ ms.drop (i + 1) ++ ms.drop (ms.length - 1)) := by
    unfold Z.lay
    rw [encM_app, encM_app, encM_take, encM_drop, encM_drop, List.length_drop, hel, show i * 3 + (ms.length * 3 - (i + 1) * 3) = (ms.length - 1) * 3 by omega]
  rw [hms] at hO2
  have hI2 : IsM w2 62 g (.slice (some ⟨b, 0, none⟩) L.length c) (L.take i ++ L.drop (i + 1) ++ L.drop (L.length - 1)) := by
    refine IsM.mk' hg2 hO2 (by simp; omega) rfl ?_
    have hA2 := all2_keep hA ((K47.no hC1).trans (K47.own hO1 (by decide) (hU.chg.mono (fun _ _ h => by rw [h]; rfl))))
    rw [hlen]
    exact ((hA2.take i).append (hA2.drop (i + 1))).append (hA2.drop (L.length - 1))
  have hW2 : Wr w w2 g (.slice (some ⟨b, 0, none⟩) L.length c) (.slice (some ⟨b, 0, none⟩) L.length c) := Wr.pre hC1 ⟨hU.chg.mono (fun _ _ h => .inr (by rw [h]; rfl)), .inl rfl⟩
  refine zs_fin ?_
  refine zk_seq ?_
  refine zc_seq ?_
  have hll : (L.take i ++ L.drop (i + 1) ++ L.drop (L.length - 1)).length = L.length := by simp; omega
  refine zc_draw [14] (fun w' => Blk w' g 62 [.slice (some ⟨b, 0, none⟩) L.length c]) (.take 0 (.take 1 (.take 2 (.take 3 (.take 4 (.take 5 (.take 6 (.take 7 (.take 8 (.take 9 (.take 10 (.take 11 (.plain 12 (.take 13 (.last 14))))))))))))))) (by rfl) (by kernel_rfl) (by kernel_rfl) (fun w1 hC1 hH1 => ⟨?_, ?_⟩)
  · exact hg2.no ‹_›
  have hI3 := hI2.no hC1
  have hg3 := hg2.no hC1
  iterate 3 (refine zs_take rfl (zt_pure rfl ?_))
  refine zs_rdL rfl want_none rfl (by decide) (fun _ hS => r_fa rfl) ?_
  refine zs_rdL rfl want_none rfl (by decide) (fun _ hS => r_loadB rfl hS (by rfl)) ?_
  iterate 2 (refine zs_take rfl (zt_pure rfl ?_))
  refine zs_rdL rfl want_none rfl (by decide) (fun _ hS => r_fa rfl) ?_
  refine zs_rdL rfl want_none rfl (by decide) (fun _ hS => r_loadB rfl hS (by rfl)) ?_
  refine zs_rdL rfl want_none rfl (by decide) (fun _ hS => r_len rfl) ?_
  refine zs_rdL rfl want_none rfl (by decide) (fun _ hS => r_sub rfl rfl (by omega) (by omega)) ?_
  refine zs_rdL rfl (by first | exact want_none | exact want_L rfl) rfl (by decide) (fun _ hS => r_cutTo (k := L.length - 1) (.inr ⟨_, _, rfl⟩) rfl (optI_eq rfl (by omega)) (by omega)) ?_
  refine zs_plainL rfl rfl ?_
  refine zs_rdL rfl want_none rfl (by decide) (fun _ hS => r_fa rfl) ?_
  refine zs_storeL rfl (by first | exact want_none | exact want_L rfl) rfl rfl rfl (by assumption) (by first | exact Nat.le_refl _ | simp [Value.cells]) (by simp [Value.cells, Value.oneCell']) (fun w4 hU4 => ?_)
  refine zk_seq ?_
  refine zc_seq ?_
  refine zc_region ?_
  refine zl_pureL rfl ?_
  refine zl_nil ?_
  refine zk_seq ?_
  refine zc_ret ?_
  have hI4 := IsM.front (L := L.take i ++ L.drop (i + 1) ++ L.drop (L.length - 1)) (st := 62) (g := g) (c := c) (A := some ⟨b, 0, none⟩) (by rw [hll]; exact hI3) (by decide) (L.length - 1) (by rw [hll]; omega) hU4 (by decide)
  rw [show (L.take i ++ L.drop (i + 1) ++ L.drop (L.length - 1)).take (L.length - 1) = dropM L i from lay_drop L i hi] at hI4
  exact zk_ret1 (.inr rfl) rfl rfl ⟨rfl, _, hI4, (hW2.no hC1).trans (Upd.wr hU4)⟩
end Go.Proofs.Ytaagolhokejflaa.M
