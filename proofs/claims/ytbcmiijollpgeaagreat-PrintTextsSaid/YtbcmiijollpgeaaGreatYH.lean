import Derived.Test.YtbcmiijollpgeaaGreatYG
set_option maxHeartbeats 32000000
set_option maxRecDepth 100000
namespace Go.Proofs.YtbcmiijollpgeaaGreat.J
open Go Go.Z Go.Proofs
open T (big)
structure Row (B : Nat) (w : World) (v : Value) (ss : List (List UInt8)) : Prop where
 own : Own w 9 1 v ss.length (T.cellsS ss)
 ge : ∀ k, v.ownBlock = some k → B ≤ k
theorem Row.nil {B : Nat} {w : World} : Row B w (.slice none 0 0) [] := ⟨Own.nil, (fun k hk => by cases hk)⟩
theorem Row.no {B : Nat} {w w' : World} {v : Value} {ss : List (List UInt8)} (h : Row B w v ss) (hc : Chg w w' No) : Row B w' v ss := ⟨h.own.no hc, h.ge⟩
theorem Row.cells {B : Nat} {w : World} {v : Value} {ss : List (List UInt8)} (h : Row B w v ss) (hp : 0 < ss.length) : ∃ b o c, v = .slice (some ⟨b, o, none⟩) ss.length c ∧ ss.length ≤ c ∧ ∀ j, j < ss.length → w.cell? ⟨b, o + j, none⟩ = some (.string (bs (ss.getD j []))) := by
 obtain ⟨b, o, c, hv, hc, hcc⟩ := RdS.some h.own.rd hp
 exact ⟨b, o, c, hv, hc, fun j hj => hcc j _ (T.cellsS_at ss j hj)⟩
theorem z_rowpush {n : Nat} {e : Env} {w0 w : World} {Q : Exit → Act → World → Prop} {ops : Array Oper} {rest : List Oper} {d1 d2 : Tmp} {ty1 ty2 : TypeId} {pos1 pos2 : String} {aft1 aft2 : Array Edge} {g1 g2 : Option (Nat × Bool)} {x s : Operand} {v : Value} {ss : List (List UInt8)} {l : List UInt8}
  (hR : Row w0.heap.size w v ss) (hC : Chg w0 w No) (hn : ss.length ≤ 1000000000) (hw1 : Want ops e g1) (hd1 : d1 < n) (hx : ev e x = some (.string (bs l))) (hw2 : ∀ v, Want ops ((d1, v) :: e) g2) (hd2 : d2 < n) (hs : ∀ u, ev ((d1, u) :: e) s = some v)
  (h : ∀ v' w' b, Row w0.heap.size w' v' (ss ++ [l]) → Chg w0 w' No → ZL Tryz.prog n ops rest ((d2, v') :: (d1, .slice (some ⟨b, 0, none⟩) 1 1) :: e) w' Q) :
  ZL Tryz.prog n ops (⟨some d1, .buildSlice 82 1 #[(0, x)], ty1, pos1, aft1, g1⟩ :: ⟨some d2, .call { callee := .builtin .append, args := #[s, .tmp d1], argTypes := #[82, 82] }, ty2, pos2, aft2, g2⟩ :: rest) e w Q := by
 refine z_bs1 hw1 hd1 hx (by rfl) (by rfl) (by decide) (by decide) (fun w1 b1 hN1 => ?_)
 have hr : RdS w1 9 1 (.slice (some ⟨b1, 0, none⟩) 1 1) 1 (T.cellsS [l]) := RdS.new hN1 rfl (T.cellsS_one _)
 refine z_appendO (by rfl) (by decide) (hw2 _) hd2 (hs _) (by simp [ev, Env.get]) (hR.own.no hN1.chg) hr (by omega) (by omega) (fun v2 w2 hO2 hC2 hr2 => ?_)
 rw [← T.cellsS_app, show ss.length + 1 = (ss ++ [l]).length by simp] at hO2
 have hv2 := T.rowge hR.ge hr2 (by have := hC.size; have := hN1.size; omega)
 exact h v2 w2 b1 ⟨hO2, hv2⟩ ((hC.no hN1.chg).trans hC2 (fun j hj hs => by have := hR.ge j hs; omega))
def sp1 (c d : UInt8) : List (List UInt8) := if c = d then [[], []] else [[c]]
theorem split_calls {w : World} (c d : UInt8) : Calls Tryz.prog 190 [.string (bs [c]), .string (bs [d])].toArray w fun e w' => (∃ v, e = .returned v ∧ Row w.heap.size w' v (sp1 c d)) ∧ Chg w w' No := by
 obtain ⟨l, hl⟩ : ∃ l, l = [c] := ⟨_, rfl⟩
 have hlen : l.length = 1 := by rw [hl]; rfl
 rw [← hl]
 refine zCz 36 Tryz.func190 ?_
 refine zS (zR (zP rfl (zN (zK (zS (zR (zP rfl (zN (zK (zS (zR (zP rfl (zN (zK (zS (zS (zR (zP rfl (zN (zK (zB ?_)))))))))))))))))))))
 refine zc_loopW (ι := Nat × Nat × Value × List (List UInt8)) (fun q u => [(0, .string (bs l)), (1, .string (bs [d])), (5, q.2.2.1), (6, .int .i64 (q.2.1 : Nat)), (7, .int .i64 (q.1 : Nat))])
  (fun q u => ((q.1 = 0 ∧ q.2.1 = 0 ∧ q.2.2.2 = []) ∨ (q.1 = 1 ∧ c ≠ d ∧ q.2.1 = 0 ∧ q.2.2.2 = []) ∨ (q.1 = 1 ∧ c = d ∧ q.2.1 = 1 ∧ q.2.2.2 = [[]])) ∧ Row w.heap.size u q.2.2.1 q.2.2.2 ∧ Chg w u No) (fun q u => 1 - q.1) (0, 0, .slice none 0 0, []) ⟨.inl ⟨rfl, rfl, rfl⟩, Row.nil, Chg.refl _ _⟩ ⟨rfl, rfl, rfl, rfl, rfl, trivial⟩ ?_
 rintro ⟨i, fr, v, ss⟩ u ⟨hs, hR, hC⟩
 dsimp only at hs hR ⊢
 rcases hs with ⟨rfl, rfl, rfl⟩ | ⟨rfl, hcd, rfl, rfl⟩ | ⟨rfl, hcd, rfl, rfl⟩
 ·refine zS (zS (zR (zP rfl (zP rfl (zLL rfl (zCT rfl rfl rfl (zN (zK (zT rfl (zA (zK (zS (zB (zS (zR (zP rfl (zP rfl (zP rfl (zAd rfl rfl ?_)))))))))))))))))))
  refine z_cutN 0 1 (want_L rfl) (by decide) rfl rfl rfl rfl rfl (by omega) (by omega) ?_
  rw [show (l.drop 0).take (1 - 0) = [c] by rw [hl]; rfl]
  refine zP rfl ?_
  refine zEq rfl rfl (fun hc => ?_) (fun hc => ?_)
  ·have hcd : c = d := (List.cons.inj hc).1
   refine zN (zK (zT rfl (zS (zR (zP rfl (zP rfl (zP rfl (zP rfl ?_))))))))
   refine z_cutN 0 0 (want_L rfl) (by decide) rfl rfl rfl rfl rfl (by omega) (by omega) ?_
   rw [show (l.drop 0).take (0 - 0) = [] by simp]
   refine z_rowpush hR hC (by simp) (want_L rfl) (by decide) rfl (fun _ => (want_L rfl)) (by decide) (fun _ => rfl) (fun v2 u2 b2 hR2 hC2 => ?_)
   refine zP rfl (zN (zK (zR (zP rfl (zAd rfl rfl (zP rfl (zN (zM (zK (zR (zP rfl (zAd rfl rfl (zP rfl (zN ?_))))))))))))))
   exact zk_loopW (1, 1, v2, [[]]) ⟨.inr (.inr ⟨rfl, hcd, rfl, rfl⟩), hR2, hC2⟩ (by dsimp only; omega) ⟨rfl, rfl, rfl, rfl, rfl, trivial⟩
  ·have hcd : c ≠ d := fun h => hc (by rw [h])
   refine zN (zK (zF rfl (zA (zM (zK (zR (zP rfl (zAd rfl rfl (zP rfl (zN ?_))))))))))
   exact zk_loopW (1, 0, v, []) ⟨.inr (.inl ⟨rfl, hcd, rfl, rfl⟩), hR, hC⟩ (by dsimp only; omega) ⟨rfl, rfl, rfl, rfl, rfl, trivial⟩
 ·refine zS (zS (zR (zP rfl (zP rfl (zLL rfl (zCF rfl rfl rfl (zN (zK (zF rfl (zL (zX (zX (zY (zK (zS (zR (zP rfl (zP rfl (zP rfl ?_)))))))))))))))))))
  refine z_cutN 0 l.length (want_L rfl) (by decide) rfl rfl rfl rfl rfl (by omega) (by omega) ?_
  rw [show (l.drop 0).take (l.length - 0) = [c] by rw [hl]; rfl]
  refine z_rowpush hR hC (by simp) (want_L rfl) (by decide) rfl (fun _ => (want_L rfl)) (by decide) (fun _ => rfl) (fun v2 u2 b2 hR2 hC2 => ?_)
  refine zP rfl (zN (zK (zE ?_)))
  exact zk_ret1 (.inr rfl) rfl rfl ⟨⟨v2, rfl, by unfold sp1; rw [if_neg hcd]; exact hR2⟩, hC2⟩
 ·refine zS (zS (zR (zP rfl (zP rfl (zLL rfl (zCF rfl rfl rfl (zN (zK (zF rfl (zL (zX (zX (zY (zK (zS (zR (zP rfl (zP rfl (zP rfl ?_)))))))))))))))))))
  refine z_cutN 1 l.length (want_L rfl) (by decide) rfl rfl rfl rfl rfl (by omega) (by omega) ?_
  rw [show (l.drop 1).take (l.length - 1) = [] by rw [hl]; rfl]
  refine z_rowpush hR hC (by simp) (want_L rfl) (by decide) rfl (fun _ => (want_L rfl)) (by decide) (fun _ => rfl) (fun v2 u2 b2 hR2 hC2 => ?_)
  refine zP rfl (zN (zK (zE ?_)))
  exact zk_ret1 (.inr rfl) rfl rfl ⟨⟨v2, rfl, by unfold sp1; rw [if_pos hcd]; exact hR2⟩, hC2⟩
theorem host_calls {w : World} : Calls Tryz.prog 167 [.string (bs [97])].toArray w fun e w' => e = .returned (.bool true) ∧ Chg w w' No := by
 have hbig : big = 1000000000000 := rfl
 have hsp := split_calls (w := w) 97 46
 obtain ⟨l, hl⟩ : ∃ l : List UInt8, l = [97] := ⟨_, rfl⟩
 have hlen : l.length = 1 := by rw [hl]; rfl
 have hb0 : Z.byteL l 0 = 97 := by rw [hl]; rfl
 have hne : l ≠ [] := by rw [hl]; simp
 rw [← hl] at hsp ⊢
 refine zCz 82 Tryz.func167 ?_
 refine zS (zR (zP rfl (zN (zK (zS (zS (zR (zP rfl (zN (zK (zB ?_)))))))))))
 refine zc_loopW (ι := Nat) (fun i u => [(0, .string (bs l)), (3, .int .i64 (i : Nat))]) (fun i u => i ≤ 1 ∧ u = w) (fun i u => 1 - i) 0 ⟨by omega, rfl⟩ ⟨rfl, rfl, trivial⟩ ?_
 rintro i u ⟨hi, hu⟩
 obtain rfl := hu.symm
 by_cases hlt : i = 0
 ·subst hlt
  refine zS (zS (zR (zP rfl (zP rfl (zLL rfl (zCT rfl rfl rfl (zN (zK (zT rfl (zA (zK (zS (zB (zS (zR (zP rfl (zP rfl ?_)))))))))))))))))
  refine z_idxC 0 want_none (by decide) rfl rfl rfl (by omega) ?_
  refine zP rfl (zN (zK (zS (zR (zP rfl (zCT rfl rfl rfl (zP rfl (zP rfl (zCT rfl rfl rfl (zP rfl (zP rfl (zP rfl (zP rfl (zJ rfl (zP rfl (zP rfl (zP rfl (zP rfl (zJ rfl (zP rfl (zP rfl (zP rfl (zJ rfl (zP rfl (zP rfl (zP rfl (zJ rfl (zP rfl (zN (zK (zF rfl (zA (zM (zK (zR (zP rfl (zAd rfl rfl (zP rfl (zN ?_)))))))))))))))))))))))))))))))))))))))
  exact zk_loopW 1 ⟨by omega, rfl⟩ (by omega) ⟨rfl, rfl, trivial⟩
 obtain rfl : i = 1 := by omega
 refine zS (zS (zR (zP rfl (zP rfl (zLL rfl (zCF rfl rfl rfl (zN (zK (zF rfl (zL (zX (zX (zY (zK (zS (zR (zP rfl ?_)))))))))))))))))
 refine zCl rfl hsp ?_
 rintro _ w1 ⟨⟨v, rfl, hR⟩, hC1⟩
 refine ⟨_, rfl, ?_⟩
 have hR : Row w.heap.size w1 v [[97]] := hR
 obtain ⟨b, o, c, hv, hc, hcell⟩ := hR.cells (by decide)
 have hv : v = .slice (some ⟨b, o, none⟩) 1 c := hv
 have hc : 1 ≤ c := hc
 subst hv
 have g1 : w1.cell? ⟨b, o + 0, none⟩ = some (.string (bs l)) := by rw [hl]; exact hcell 0 (by decide)
 refine zP rfl (zN (zK (zS (zS (zR (zP rfl (zP rfl (zLn rfl (z_sub want_none (by decide) rfl rfl (by omega) (by omega) (zIa rfl rfl (zL1 rfl (by assumption) ?_)))))))))))
 refine zCl rfl (digits_calls l (by omega) (by omega) (by omega)) ?_
 rintro _ v2 ⟨rfl, hv2⟩
 obtain rfl := hv2.symm
 refine ⟨_, rfl, ?_⟩
 refine zN (zK (zF rfl (zA (zK (zS (zR (zP rfl ?_)))))))
 refine z_neL (want_L rfl) (by decide) rfl rfl (fun _ => ?_) (fun hc => absurd hc hne)
 refine zP rfl (zP rfl (zLL rfl (zCT rfl rfl rfl (zP rfl (zP rfl (zN (zK (zE ?_))))))))
 exact zk_ret1 (.inr rfl) rfl rfl ⟨rfl, hC1⟩
theorem path_calls {w : World} : Calls Tryz.prog 170 [.string (bs [47])].toArray w fun e w' => e = .returned (.string (bs [47])) ∧ Chg w w' No := by
 have hbig : big = 1000000000000 := rfl
 obtain ⟨l, hl⟩ : ∃ l : List UInt8, l = [47] := ⟨_, rfl⟩
 have hsp : ∀ w : World, Calls Tryz.prog 190 [.string (bs l), .string (bs [47])].toArray w fun e w' => (∃ v, e = .returned v ∧ Row w.heap.size w' v (sp1 47 47)) ∧ Chg w w' No := fun w => by rw [hl]; exact split_calls 47 47
 have hlen : l.length = 1 := by rw [hl]; rfl
 have hb0 : Z.byteL l 0 = 47 := by rw [hl]; rfl
 rw [← hl]
 refine zCz 91 Tryz.func170 ?_
 refine zS (zR (zP rfl (zN (zK (zS (zR (zP rfl (zN (zK (zS (zS (zR (zP rfl (zN (zK (zB ?_))))))))))))))))
 refine zc_midBX (ι := Unit) (fun s u => u = w) (fun s => [(3, .string (bs l))]) ?_ ?_
 ·refine zc_loopW (ι := Nat) (fun q u => [(0, .string (bs l)), (3, .string (bs (l.take q))), (4, .int .i64 (q : Nat))]) (fun q u => q ≤ 1 ∧ u = w) (fun q u => 1 - q) 0 ⟨by omega, rfl⟩ ⟨rfl, rfl, rfl, trivial⟩ ?_
  rintro i u ⟨hi, hu⟩
  obtain rfl := hu.symm
  by_cases hlt : i = 0
  ·subst hlt
   refine zS (zS (zR (zP rfl (zP rfl (zLL rfl (zCT rfl rfl rfl (zN (zK (zT rfl (zA (zK (zS (zB (zS (zR (zP rfl (zP rfl ?_)))))))))))))))))
   refine z_idxC 0 want_none (by decide) rfl rfl rfl (by omega) ?_
   refine zCF rfl rfl rfl (zN (zK (zF rfl (zR (zP rfl (zP rfl (zP rfl (zP rfl (zAd rfl rfl ?_)))))))))
   refine z_cutN 0 1 (want_L rfl) (by decide) rfl rfl rfl rfl rfl (by omega) (by omega) ?_
   refine z_catL (want_L rfl) (by decide) rfl rfl (by rw [List.length_take, List.length_take, List.length_drop]; omega) ?_
   rw [show l.take 0 ++ (l.drop 0).take (1 - 0) = l.take 1 by simp]
   refine zP rfl (zN (zM (zK (zR (zP rfl (zAd rfl rfl (zP rfl (zN ?_))))))))
   exact zk_loopW 1 ⟨by omega, rfl⟩ (by omega) ⟨rfl, rfl, rfl, trivial⟩
  ·obtain rfl : i = 1 := by omega
   rw [show l.take 1 = l by rw [hl]; rfl]
   refine zS (zS (zR (zP rfl (zP rfl (zLL rfl (zCF rfl rfl rfl (zN (zK (zF rfl (zL (zX (zX (zY ?_)))))))))))))
   exact zk_midX () rfl ⟨rfl, trivial⟩
 rintro o u hu
 obtain rfl := hu.symm
 refine zS (zR (zP rfl ?_))
 refine zCl rfl (hsp w) ?_
 rintro _ w1 ⟨⟨v, rfl, hR⟩, hC1⟩
 refine ⟨_, rfl, ?_⟩
 have hR : Row w.heap.size w1 v [[], []] := hR
 obtain ⟨b, o, c, hv, hc, hcell⟩ := hR.cells (by decide)
 have hv : v = .slice (some ⟨b, o, none⟩) 2 c := hv
 have hc : 2 ≤ c := hc
 subst hv
 have g1 : w1.cell? ⟨b, o + 1, none⟩ = some (.string (bs [])) := hcell 1 (by decide)
 refine zP rfl (zN (zK (zS (zS (zR (zP rfl (zLn rfl (zCT rfl rfl rfl (zN (zK (zT rfl (zR (zP rfl ?_)))))))))))))
 refine zl_run (want_L rfl) rfl (by decide) (r_cutFrom (k := 1) rfl rfl (by omega) hc) ?_
 rw [cutA_at (by omega)]
 refine zP rfl (zN (zK (zS (zR (zP rfl (zN (zK (zS (zS (zR (zP rfl (zN (zK (zB ?_))))))))))))))
 refine zc_midBX (ι := Value) (fun q u => Row w1.heap.size u q [[]] ∧ Chg w1 u No) (fun q => [(6, q)]) ?_ ?_
 ·refine zc_loopW (ι := Nat × Value × List (List UInt8)) (fun q u => [(5, .slice (some ⟨b, o + 1 * 1, none⟩) (2 - 1) (c - 1)), (6, q.2.1), (7, .int .i64 (q.1 : Nat))])
   (fun q u => ((q.1 = 0 ∧ q.2.1 = .slice none 0 0 ∧ q.2.2 = []) ∨ (q.1 = 1 ∧ q.2.2 = [[]])) ∧ Row w1.heap.size u q.2.1 q.2.2 ∧ Chg w1 u No) (fun q u => 1 - q.1) (0, .slice none 0 0, []) ⟨.inl ⟨rfl, rfl, rfl⟩, Row.nil, Chg.refl _ _⟩ ⟨rfl, rfl, rfl, trivial⟩ ?_
  rintro ⟨i, v6, ls⟩ u ⟨hi, hR6, hC⟩
  dsimp only at hi hR6 ⊢
  rcases hi with ⟨rfl, rfl, rfl⟩ | ⟨rfl, rfl⟩
  ·have ht1 := cell_keep hC g1
   refine zS (zS (zR (zP rfl (zP rfl (zLn rfl (zCT rfl rfl rfl (zN (zK (zT rfl (zA (zK (zS (zB (zS (zR (zP rfl (zP rfl (zIa rfl rfl (zL1 rfl (by assumption) ?_)))))))))))))))))))
   refine zCl rfl dots_calls ?_
   rintro _ u2 ⟨rfl, hC2⟩
   refine ⟨_, rfl, ?_⟩
   have hR2 := hR6.no hC2
   have hC02 : Chg w1 u2 No := hC.no hC2
   have ht2 := cell_keep hC2 ht1
   refine zP rfl (zN (zK (zS (zS (zR (zP rfl (zCF rfl rfl rfl (zP rfl (zP rfl (zJ rfl (zJ rfl (zP rfl (zN (zK (zF rfl (zA (zK (zS (zR (zP rfl (zCT rfl rfl rfl (zN (zK (zT rfl (zR (zP rfl (zP rfl (zP rfl (zIa rfl rfl (zL1 rfl (by assumption) ?_))))))))))))))))))))))))))))))
   refine z_rowpush hR2 hC02 (by simp) (want_L rfl) (by decide) rfl (fun _ => (want_L rfl)) (by decide) (fun _ => rfl) (fun v8 u8 b8 hR8 hC8 => ?_)
   refine zP rfl (zN (zM (zK (zR (zP rfl (zAd rfl rfl (zP rfl (zN ?_))))))))
   exact zk_loopW (1, v8, [[]]) ⟨.inr ⟨rfl, rfl⟩, hR8, hC8⟩ (by dsimp only; omega) ⟨rfl, rfl, rfl, trivial⟩
  ·refine zS (zS (zR (zP rfl (zP rfl (zLn rfl (zCF rfl rfl rfl (zN (zK (zF rfl (zL (zX (zX (zY ?_)))))))))))))
   exact zk_midX v6 ⟨hR6, hC⟩ ⟨rfl, trivial⟩
 rintro v6 u ⟨hR6, hC⟩
 obtain ⟨b6, o6, c6, hv6, hc6, hcell6⟩ := hR6.cells (by decide)
 have hv6 : v6 = .slice (some ⟨b6, o6, none⟩) 1 c6 := hv6
 have hc6 : 1 ≤ c6 := hc6
 subst hv6
 have g6 : u.cell? ⟨b6, o6 + 0, none⟩ = some (.string (bs [])) := hcell6 0 (by decide)
 refine zS (zR (zP rfl (zN (zK (zS (zS (zR (zP rfl (zN (zK (zB ?_)))))))))))
 refine zc_loopW (ι := Nat × List UInt8) (fun q u => [(6, .slice (some ⟨b6, o6, none⟩) 1 c6), (9, .string (bs q.2)), (10, .int .i64 (q.1 : Nat))]) (fun q u' => ((q.1 = 0 ∧ q.2 = []) ∨ (q.1 = 1 ∧ q.2 = [47])) ∧ u' = u) (fun q u => 1 - q.1) (0, []) ⟨.inl ⟨rfl, rfl⟩, rfl⟩ ⟨rfl, rfl, rfl, trivial⟩ ?_
 rintro ⟨i, s⟩ u' ⟨hi, hu⟩
 obtain rfl := hu.symm
 dsimp only at hi ⊢
 rcases hi with ⟨rfl, rfl⟩ | ⟨rfl, rfl⟩
 ·refine zS (zS (zR (zP rfl (zP rfl (zLn rfl (zCT rfl rfl rfl (zN (zK (zT rfl (zA (zK (zS (zB (zR (zP rfl ?_)))))))))))))))
  refine z_catL want_none (by decide) rfl rfl (by simp only [List.length_append, List.length_cons, List.length_nil]; omega) ?_
  refine zP rfl (zP rfl (zIa rfl rfl (zL1 rfl (by assumption) ?_)))
  refine z_catL want_none (by decide) rfl rfl (by simp only [List.length_append, List.length_cons, List.length_nil]; omega) ?_
  refine zP rfl (zN (zM (zK (zR (zP rfl (zAd rfl rfl (zP rfl (zN ?_))))))))
  exact zk_loopW (1, [47]) ⟨.inr ⟨rfl, rfl⟩, rfl⟩ (by dsimp only; omega) ⟨rfl, rfl, rfl, trivial⟩
 ·refine zS (zS (zR (zP rfl (zP rfl (zLn rfl (zCF rfl rfl rfl (zN (zK (zF rfl (zL (zX (zX (zY (zK (zS (zR (zP rfl (zP rfl (zN (zK (zE ?_)))))))))))))))))))))
  exact zk_ret1 (.inr rfl) rfl rfl ⟨by rw [hl], hC1.no hC⟩
open T (big)
def addr : List UInt8 := [104, 116, 116, 112, 58, 47, 47, 97, 47]
theorem scheme_calls {w : World} : Calls Tryz.prog 164 [.string (bs addr)].toArray w fun e w' => e = .returned (.tuple #[.string (bs http), .string (bs [47, 47, 97, 47])]) ∧ Chg w w' No := by
 have hbig : big = 1000000000000 := rfl
 obtain ⟨l, hl⟩ : ∃ l : List UInt8, l = addr := ⟨_, rfl⟩
 have hlen : l.length = 9 := by rw [hl]; rfl
 have hb : ∀ i, i < 4 → Z.byteL l i ≠ 58 ∧ T.letN (Z.byteL l i) = true := by rw [hl]; decide
 have hb4 : Z.byteL l 4 = 58 := by rw [hl]; rfl
 have hne : l ≠ [] := by rw [hl]; simp [addr]
 rw [← hl]
 refine zCz 55 Tryz.func164 ?_
 refine zS (zR (zP rfl (zP rfl (zN (zK (zS (zS (zR (zP rfl ?_)))))))))
 refine zEq rfl rfl (fun hc => absurd hc hne) (fun _ => ?_)
 refine zP rfl (zP rfl ?_)
 refine z_idxC 0 (want_L rfl) (by decide) rfl rfl rfl (by omega) ?_
 refine zCl rfl (T.letter_calls _) ?_
 rintro _ v ⟨rfl, hv⟩
 obtain rfl := hv.symm
 refine ⟨_, rfl, ?_⟩
 rw [(hb 0 (by omega)).2]
 refine zP rfl (zP rfl (zN (zK (zF rfl (zA (zK (zS (zS (zR (zP rfl (zN (zK (zB ?_)))))))))))))
 refine zc_midBX (ι := Unit) (fun _ u => False) (fun _ => [(0, .string (bs l))]) ?_ (fun _ _ h => h.elim)
 refine zc_loopW (ι := Nat) (fun i u => [(0, .string (bs l)), (4, .int .i64 (i : Nat))]) (fun i u => i ≤ 4 ∧ u = w) (fun i u => 4 - i) 0 ⟨Nat.zero_le _, rfl⟩ ⟨rfl, rfl, trivial⟩ ?_
 rintro i u ⟨hi, hu⟩
 obtain rfl := hu.symm
 by_cases h4 : i = 4
 ·have hb4' : Z.byteL l i = 58 := by rw [h4]; exact hb4
  refine zS (zS (zR (zP rfl (zP rfl (zLL rfl (zCT rfl rfl rfl (zN (zK (zT rfl (zA (zK (zS (zB (zS (zR (zP rfl (zP rfl (zIx rfl rfl (zP rfl (zN (zK (zS (zS (zR (zP rfl (zCT rfl rfl rfl (zN (zK (zT rfl (zS ?_))))))))))))))))))))))))))))))
  refine zc_draw [] (fun w' => Chg w w' No) (.take 0 (.take 1 (.take 2 (.take 4 (.take 5 (.take 6 (.take 7 (.all1 3 (.take 8 (.take 9 (.fin))))))))))) (by rfl) (by kernel_rfl) (by kernel_rfl) (fun u1 hD1 _ => ⟨?_, ?_⟩)
  ·exact hD1
  refine ztP rfl rfl (ztP rfl rfl (zRd rfl rfl (fun _ _ => r_cutN 0 i rfl rfl rfl rfl rfl (by omega) (by omega)) ?_))
  refine ztP rfl rfl (ztP rfl rfl (zRd rfl rfl (fun _ hS => r_add rfl rfl (by omega) (by omega)) ?_))
  refine zRd rfl rfl (fun _ _ => r_cutN (i + 1) l.length rfl rfl rfl (by omega) rfl (by omega) (by omega)) ?_
  rw [show (l.drop 0).take (i - 0) = http by rw [hl, h4]; rfl, show (l.drop (i + 1)).take (l.length - (i + 1)) = [47, 47, 97, 47] by rw [hl, h4]; rfl]
  refine zs_call rfl (want_L rfl) rfl (by decide) rfl (T.fold_calls http (by decide) (by decide)) ?_
  rintro _ u2 ⟨rfl, hC2⟩
  have hD2 := hD1.no hC2
  refine ⟨_, rfl, hD2, ?_⟩
  refine ztP rfl rfl (ztP rfl rfl ?_)
  refine zs_fin ?_
  refine zK (zE (zQ (zW (zQ (zQ (zW (zQ ?_)))))))
  exact zk_ret2 (.inr rfl) rfl rfl rfl ⟨rfl, hD2⟩
 ·obtain ⟨h58, hlet⟩ := hb i (by omega)
  refine zS (zS (zR (zP rfl (zP rfl (zLL rfl (zCT rfl rfl rfl (zN (zK (zT rfl (zA (zK (zS (zB (zS (zR (zP rfl (zP rfl (zIx rfl rfl (zP rfl (zN (zK (zS (zS (zR (zP rfl (zCF rfl rfl rfl (zN (zK (zF rfl (zA (zK (zS (zR (zP rfl ?_))))))))))))))))))))))))))))))))))
  refine zCl rfl (T.letter_calls _) ?_
  rintro _ v ⟨rfl, hv⟩
  obtain rfl := hv.symm
  refine ⟨_, rfl, ?_⟩
  rw [hlet]
  refine zP rfl (zP rfl (zP rfl (zJ rfl (zP rfl (zP rfl (zP rfl (zP rfl (zJ rfl (zP rfl (zP rfl (zP rfl (zJ rfl (zP rfl (zP rfl (zP rfl (zJ rfl (zP rfl (zN (zK (zF rfl (zA (zM (zK (zR (zP rfl (zAd rfl rfl (zP rfl (zN ?_))))))))))))))))))))))))))))
  exact zk_loopW (i + 1) ⟨by omega, rfl⟩ (by omega) ⟨rfl, get_int rfl (by omega), trivial⟩
def urlV (h p q f : List UInt8) : Value := .agg #[.string (bs http), .string (bs h), .int .i64 0, .string (bs p), .string (bs q), .string (bs f)]
theorem head_calls {w : World} (h p q f : List UInt8) (hl : h.length ≤ 1000) : Calls Tryz.prog 171 [urlV h p q f].toArray w fun e w' => e = .returned (.string (bs ([104, 116, 116, 112, 58, 47, 47] ++ h))) ∧ Chg w w' No := by
 have hhl : http.length = 4 := rfl
 refine zCz 25 Tryz.func171 ?_
 refine zS (zR ?_)
 refine zBx rfl (fun w1 b1 hN1 => ?_)
 have hb1 : Blk w1 b1 153 [.string (bs http), .string (bs h), .int .i64 0, .string (bs p), .string (bs q), .string (bs f)] := hN1.blk
 refine zP rfl (zN (zK (zS (zR (zfa rfl (zlB rfl ?_))))))
 refine z_catL want_none (by decide) rfl rfl (by simp only [List.length_append, List.length_cons, List.length_nil]; omega) ?_
 refine zP rfl (zN (zK (zS (zS (zR (zfa rfl (zlB rfl ?_)))))))
 refine zCl rfl web_calls ?_
 rintro _ w2 ⟨rfl, hw⟩
 obtain rfl := hw.symm
 refine ⟨_, rfl, ?_⟩
 refine zN (zK (zT rfl (zS (zR (zP rfl ?_)))))
 refine z_catL want_none (by decide) rfl rfl (by simp only [List.length_append, List.length_cons, List.length_nil]; omega) ?_
 refine zfa rfl (zlB rfl ?_)
 refine z_catL want_none (by decide) rfl rfl (by simp only [List.length_append, List.length_cons, List.length_nil]; omega) ?_
 refine zP rfl (zN (zK (zS (zR (zfa rfl (zlB rfl ?_))))))
 refine zCF rfl rfl rfl (zN (zK (zF rfl (zA (zK (zS (zR (zP rfl (zP rfl (zN (zK (zE ?_))))))))))))
 exact zk_ret1 (.inr rfl) rfl rfl ⟨rfl, hN1.chg⟩
theorem utext_calls {w : World} (h p q f : List UInt8) (hl : h.length ≤ 1000) (hp : p.length ≤ 1000) (hq : q.length ≤ 1000) (hf : f.length ≤ 1000) : Calls Tryz.prog 135 [urlV h p q f].toArray w fun e w' => e = .returned (.string (bs ([104, 116, 116, 112, 58, 47, 47] ++ h ++ p ++ q ++ f))) ∧ Chg w w' No := by
 refine zCz 14 Tryz.func135 ?_
 refine zS (zR ?_)
 refine zBx rfl (fun w1 b1 hN1 => ?_)
 have hb1 : Blk w1 b1 153 [.string (bs http), .string (bs h), .int .i64 0, .string (bs p), .string (bs q), .string (bs f)] := hN1.blk
 refine zP rfl (zN (zK (zS ?_)))
 refine zc_draw [] (fun w' => Chg w1 w' No ∧ Blk w' b1 153 [.string (bs http), .string (bs h), .int .i64 0, .string (bs p), .string (bs q), .string (bs f)]) (.take 0 (.take 2 (.take 3 (.take 5 (.take 6 (.take 8 (.take 9 (.all1 1 (.take 4 (.take 7 (.take 10 (.take 11 (.fin))))))))))))) (by rfl) (by kernel_rfl) (by kernel_rfl) (fun w2 hD _ => ⟨?_, ?_⟩)
 ·exact ⟨hD, hb1.no hD⟩
 refine zRd rfl rfl (fun _ hS => r_loadAB rfl hS.2 (by rfl)) ?_
 refine zRd rfl rfl (fun _ hS => r_fa rfl) ?_
 refine zRd rfl rfl (fun _ hS => r_loadB rfl hS.2 (by rfl)) ?_
 refine zRd rfl rfl (fun _ hS => r_fa rfl) ?_
 refine zRd rfl rfl (fun _ hS => r_loadB rfl hS.2 (by rfl)) ?_
 refine zRd rfl rfl (fun _ hS => r_fa rfl) ?_
 refine zRd rfl rfl (fun _ hS => r_loadB rfl hS.2 (by rfl)) ?_
 refine zs_call rfl (want_L rfl) rfl (by decide) rfl (head_calls h p q f hl) ?_
 rintro _ w3 ⟨rfl, hC⟩
 have hD2 := hD.no hC
 refine ⟨_, rfl, ⟨hD2, hb1.no hD2⟩, ?_⟩
 have hl7 : ([104, 116, 116, 112, 58, 47, 47] ++ h).length ≤ 1007 := by rw [List.length_append, show ([104, 116, 116, 112, 58, 47, 47] : List UInt8).length = 7 from rfl]; omega
 obtain ⟨s, hs⟩ : ∃ s, s = [104, 116, 116, 112, 58, 47, 47] ++ h := ⟨_, rfl⟩
 rw [← hs] at hl7 ⊢
 refine zRd rfl rfl (fun _ hS => r_catL rfl rfl (by omega)) ?_
 iterate 2 (refine zRd rfl rfl (fun _ hS => r_catL rfl rfl (by simp only [List.length_append, List.length_cons, List.length_nil]; omega)) ?_)
 refine ztP rfl rfl ?_
 refine zs_fin ?_
 refine zK (zE ?_)
 exact zk_ret1 (.inr rfl) rfl rfl ⟨rfl, hN1.chg.no hD2⟩
def useW : List UInt8 := [105, 109, 97, 103, 101, 47, 103, 105, 102, 32, 105, 109, 97, 103, 101, 47, 106, 112, 101, 103, 32, 105, 109, 97, 103, 101, 47, 112, 110, 103, 32, 105, 109, 97, 103, 101, 47, 119, 101, 98, 112]
theorem fit_calls {w : World} (h q f : List UInt8) : Calls Tryz.prog 136 [urlV h [47] q f, .int .i64 2].toArray w fun e w' => e = .returned (.bool true) ∧ Chg w w' No := by
 have hbig : big = 1000000000000 := rfl
 refine zCz 55 Tryz.func136 ?_
 refine zS (zR ?_)
 refine zBx rfl (fun w1 b1 hN1 => ?_)
 have hb1 : Blk w1 b1 153 [.string (bs http), .string (bs h), .int .i64 0, .string (bs [47]), .string (bs q), .string (bs f)] := hN1.blk
 refine zP rfl (zN (zK (zS (zS (zR (zP rfl (zN (zK (zB (zS (zR (zCF rfl rfl rfl (zP rfl (zN (zK (zF rfl (zS (zR (zCT rfl rfl rfl (zP rfl (zN (zK (zT rfl (zS (zR ?_)))))))))))))))))))))))))
 refine zCl rfl (T.wordsR_calls (l := useW) (by decide)) ?_
 rintro _ w2 ⟨v, rfl, hO, hC2⟩
 refine ⟨_, rfl, ?_⟩
 obtain ⟨ws, hws⟩ : ∃ ws, ws = T.wordsN [] useW := ⟨_, rfl⟩
 rw [← hws] at hO
 have hwl : ws.length = 4 := by rw [hws]; decide +kernel
 obtain ⟨A, c, rfl, _⟩ := hO.rd.form
 have hb2 := hb1.no hC2
 refine zP rfl (zN (zK (zS (zR (zfa rfl (zlB rfl ?_))))))
 refine zCl rfl (T.fold_calls [47] (by decide) (by decide)) ?_
 rintro _ w3 ⟨rfl, hC3⟩
 refine ⟨_, rfl, ?_⟩
 have hb3 := hb2.no hC3
 have hX : Chg w w3 No := (hN1.chg.no hC2).no hC3
 refine zP rfl (zN (zK (zS (zS (zR (zP rfl (zN (zK (zB ?_)))))))))
 refine zc_loopW (ι := Nat) (fun i u => [(2, .pointer (some ⟨b1, 0, none⟩)), (5, .slice A ws.length c), (6, .string (bs [47])), (7, .int .i64 (i : Nat))]) (fun i u => i ≤ 4 ∧ u = w3) (fun i u => 4 - i) 0 ⟨Nat.zero_le _, rfl⟩ ⟨rfl, rfl, rfl, rfl, trivial⟩ ?_
 rintro i u ⟨hi, hu⟩
 obtain rfl := hu.symm
 by_cases hlt : i < 4
 ·refine zS (zS (zR (zP rfl (zP rfl (zLn rfl (zCT rfl rfl rfl (zN (zK (zT rfl (zA (zK (zS (zB (zS (zR (zfa rfl (zlB rfl ?_)))))))))))))))))
  refine zEq rfl rfl (fun hc => absurd hc (by decide)) (fun _ => ?_)
  refine zP rfl (zP rfl (zP rfl (zP rfl (zJ rfl (zJ rfl (zJ rfl (zJ rfl (zP rfl (zP rfl (zP rfl (zP rfl (zJ rfl (zJ rfl (zJ rfl (zJ rfl (zP rfl (zP rfl (zN (zK (zF rfl (zA (zM (zK (zR (zP rfl (zAd rfl rfl (zP rfl (zN ?_))))))))))))))))))))))))))))
  exact zk_loopW (i + 1) ⟨by omega, rfl⟩ (by omega) ⟨rfl, rfl, rfl, get_int rfl (by omega), trivial⟩
 ·obtain rfl : i = 4 := by omega
  refine zS (zS (zR (zP rfl (zP rfl (zLn rfl (zCF rfl rfl rfl (zN (zK (zF rfl (zL (zX (zX (zY (zK (zS (zR (zfa rfl (zlB rfl ?_))))))))))))))))))
  refine zCl rfl web_calls ?_
  rintro _ w2 ⟨rfl, hw⟩
  obtain rfl := hw.symm
  refine ⟨_, rfl, ?_⟩
  refine zP rfl (zN (zK (zE (zW (zQ ?_)))))
  exact zk_ret1 (.inr rfl) rfl rfl ⟨rfl, hX⟩
open T (big)
abbrev UB (w : World) (b : Nat) (A H c d F : List UInt8) : Prop := Blk w b 153 [.string (bs A), .string (bs H), .int .i64 0, .string (bs c), .string (bs d), .string (bs F)]
theorem UB.chg {w w' : World} {b : Nat} {A H c d F : List UInt8} {S : Nat → Prop} (h : UB w b A H c d F) (hc : Chg w w' S) (hn : ¬ S b) : UB w' b A H c d F := Blk.chg h hc hn
theorem UB.no {w w' : World} {b : Nat} {A H c d F : List UInt8} (h : UB w b A H c d F) (hc : Chg w w' No) : UB w' b A H c d F := Blk.no h hc
def G23 (b6 : Nat) (j : Nat) (v : Value) (_ : World) : Prop :=
 v = ([.string (bs [47]), .int .i64 1, .string (bs []), .string (bs [47]), .int .i64 1, .string (bs [47]), .pointer (some ⟨b6, 4, none⟩), .bool true, .pointer (some ⟨b6, 3, none⟩)] : List Value).getD j (.bool true)
def T23 (w0 : World) (b6 : Nat) (b : Array Bool) (w : World) : Prop := ∃ c, UB w b6 http [97] c [] [] ∧ (b.getD 9 false = true → c = [47]) ∧ Chg w0 w (· = b6)
theorem T23.put {w0 w w' : World} {b6 k : Nat} {b : Array Bool} (h : T23 w0 b6 b w) (hi : k ≠ 9) (hc : Chg w w' No) : T23 w0 b6 (b.setIfInBounds k true) w' := by
 obtain ⟨c, h1, h2, h3⟩ := h
 exact ⟨c, h1.no hc, (fun h => h2 (by rwa [gd_ne hi] at h)), h3.no hc⟩
def G25 (b6 : Nat) (j : Nat) (v : Value) (_ : World) : Prop :=
 v = ([.pointer (some ⟨b6, 4, none⟩), .string (bs []), .string (bs []), .pointer (some ⟨b6, 3, none⟩), .string (bs [47]), .string (bs [47]), .string (bs [47]), .pointer (some ⟨b6, 4, none⟩), .bool true, .pointer (some ⟨b6, 3, none⟩)] : List Value).getD j (.bool true)
def T25 (w0 : World) (b6 : Nat) (_ : Array Bool) (w : World) : Prop := UB w b6 http [97] [47] [] [] ∧ Chg w0 w (· = b6)
def rest4 : List UInt8 := [47, 47, 97, 47]
theorem parse_calls {w : World} : Calls Tryz.prog 134 [.string (bs addr)].toArray w fun e w' => e = .returned (.tuple #[urlV [97] [47] [] [], .int .i64 0]) ∧ Chg w w' No := by
 have hbig : big = 1000000000000 := rfl
 refine zCz 122 Tryz.func134 ?_
 refine zS (zR ?_)
 refine zAl (fun w1 b2 hN1 => ?_)
 have hb2 : UB w1 b2 [] [] [] [] [] := hN1.blk
 refine zP rfl (zN (zK (zS (zR (zP rfl ?_)))))
 refine zCl rfl (trim_calls addr (by decide) (by decide) (by decide)) ?_
 rintro _ v ⟨rfl, hv⟩
 obtain rfl := hv.symm
 refine ⟨_, rfl, ?_⟩
 refine zCl rfl scheme_calls ?_
 rintro _ w2 ⟨rfl, hC2⟩
 refine ⟨_, rfl, ?_⟩
 have hb2 := hb2.no hC2
 refine zP rfl (zP rfl (zP rfl (zP rfl (zP rfl (zN (zK (zS (zR (zP rfl ?_)))))))))
 refine z_buildE #[.string (bs http), .string (bs []), .int .i64 0, .string (bs []), .string (bs []), .string (bs [])] (want_L rfl) (by decide) rfl (by kernel_rfl) ?_
 refine zAl (fun w3 b6 hN3 => ?_)
 have hb6 : Blk w3 b6 153 [.string ⟨#[]⟩, .string ⟨#[]⟩, .int .i64 0, .string ⟨#[]⟩, .string ⟨#[]⟩, .string ⟨#[]⟩] := hN3.blk
 refine z_store (want_L rfl) rfl rfl rfl (by assumption) (by first | exact Nat.le_refl _ | simp [Value.cells]) (by simp [Value.cells, Value.oneCell']) (fun w4 hU4 => ?_)
 have hb6 : UB w4 b6 http [] [] [] [] := hU4.blk
 have hne : b2 ≠ b6 := by have := hb2.lt; have := hN3.at_; omega
 have hb2 : UB w4 b2 [] [] [] [] [] := (hb2.no hN3.chg).chg hU4.chg (fun h => hne h)
 have hC14 : Chg w w4 No := ((hN1.chg.no hC2).no hN3.chg).upd hU4 (by have := hN3.at_; have := hC2.size; have := hN1.size; omega)
 have h2ge : w.heap.size ≤ b2 := Nat.le_of_eq hN1.at_.symm
 have h6ge : w.heap.size ≤ b6 := by have := hN3.at_; have := hC2.size; have := hN1.size; omega
 refine zN (zK (zS (zS (zR (zP rfl ?_)))))
 refine zEq rfl rfl (fun hc => absurd hc (by decide)) (fun _ => ?_)
 refine zN (zK (zF rfl (zA (zK (zS (zS (zR (zP rfl ?_))))))))
 refine zCl rfl web_calls ?_
 rintro _ v ⟨rfl, hv⟩
 obtain rfl := hv.symm
 refine ⟨_, rfl, ?_⟩
 refine zN (zK (zT rfl (zS (zB ?_))))
 refine zc_midBX (ι := Unit) (fun q u => u = w4) (fun q => [(0, .string (bs addr)), (2, .pointer (some ⟨b2, 0, none⟩)), (4, .string (bs http)), (5, .string (bs [97, 47])), (6, .pointer (some ⟨b6, 0, none⟩))]) ?_ ?_
 ·refine zc_loopW (ι := List UInt8) (fun q u => [(0, .string (bs addr)), (2, .pointer (some ⟨b2, 0, none⟩)), (4, .string (bs http)), (5, .string (bs q)), (6, .pointer (some ⟨b6, 0, none⟩))]) (fun q u => (q = [47, 47, 97, 47] ∨ q = [47, 97, 47] ∨ q = [97, 47]) ∧ u = w4) (fun q u => q.length) rest4 ⟨.inl rfl, rfl⟩ ⟨rfl, rfl, rfl, rfl, rfl, trivial⟩ ?_
  rintro q u ⟨hq, hu⟩
  obtain rfl := hu.symm
  have hne : q ≠ [] := by rcases hq with h | h | h <;> rw [h] <;> decide
  have hpos : 0 < q.length := List.length_pos_iff.2 hne
  refine zS (zS (zR (zP rfl ?_)))
  refine z_neL (want_L rfl) (by decide) rfl rfl (fun _ => ?_) (fun hc => absurd hc hne)
  by_cases hlast : q = [97, 47]
  ·have hb0 : Z.byteL q 0 = 97 := by rw [hlast]; rfl
   refine zP rfl (zP rfl ?_)
   refine z_idxC 0 (want_L rfl) (by decide) rfl rfl rfl (by omega) ?_
   refine zCF rfl rfl rfl (zP rfl (zP rfl ?_))
   refine z_idxC 0 (want_L rfl) (by decide) rfl rfl rfl (by omega) ?_
   refine zCF rfl rfl rfl (zP rfl (zP rfl (zN (zK (zF rfl (zL (zX (zX (zY ?_)))))))))
   exact zk_midX () rfl ⟨rfl, rfl, rfl, by rw [hlast]; rfl, rfl, trivial⟩
  ·have hb0 : Z.byteL q 0 = 47 := by rcases hq with h | h | h <;> first | exact absurd h hlast | (rw [h]; rfl)
   have hq1 : q.drop 1 = [47, 97, 47] ∨ q.drop 1 = [97, 47] := by rcases hq with h | h | h <;> first | exact absurd h hlast | (rw [h]; decide)
   refine zP rfl (zP rfl ?_)
   refine z_idxC 0 (want_L rfl) (by decide) rfl rfl rfl (by omega) ?_
   refine zCT rfl rfl rfl (zP rfl (zP rfl (zJ rfl (zJ rfl (zP rfl (zP rfl (zN (zK (zT rfl (zA (zK (zB (zR (zP rfl ?_))))))))))))))
   refine z_cutN 1 q.length (want_L rfl) (by decide) rfl rfl rfl rfl rfl (by omega) (by omega) ?_
   rw [List.take_of_length_le (by rw [List.length_drop]; omega)]
   refine zP rfl (zN (zM ?_))
   exact zk_loopW (q.drop 1) ⟨.inr hq1, rfl⟩ (by rw [List.length_drop]; omega) ⟨rfl, rfl, rfl, rfl, rfl, trivial⟩
 rintro _ u hu
 obtain rfl := hu.symm
 refine zS (zR (zP rfl ?_))
 refine zCl rfl (upTo_calls [97, 47] [47, 92, 63, 35] (by decide) (by decide) 1 (by decide) (by decide) (by decide)) ?_
 rintro _ v ⟨rfl, hv⟩
 obtain rfl := hv.symm
 refine ⟨_, rfl, ?_⟩
 refine zP rfl (zN (zK (zS (zR (zP rfl (zP rfl ?_))))))
 refine z_cutN 0 1 (want_L rfl) (by decide) rfl rfl rfl rfl rfl (by decide) (by decide) ?_
 rw [show (([97, 47] : List UInt8).drop 0).take (1 - 0) = [97] from rfl]
 refine zP rfl (zN (zK (zS (zR (zP rfl (zP rfl ?_))))))
 refine z_cutN 1 2 (want_L rfl) (by decide) rfl rfl rfl rfl rfl (by decide) (by decide) ?_
 rw [show (([97, 47] : List UInt8).drop 1).take (2 - 1) = [47] from rfl]
 refine zP rfl (zN (zK (zS (zR (zP rfl ?_)))))
 refine zCl rfl (upTo_calls [97] [58] (by decide) (by decide) 1 (by decide) (by decide) (by decide)) ?_
 rintro _ v ⟨rfl, hv⟩
 obtain rfl := hv.symm
 refine ⟨_, rfl, ?_⟩
 refine zP rfl (zN (zK (zS (zR (zP rfl (zP rfl ?_))))))
 refine z_cutN 0 1 (want_L rfl) (by decide) rfl rfl rfl rfl rfl (by decide) (by decide) ?_
 rw [show (([97] : List UInt8).drop 0).take (1 - 0) = [97] from rfl]
 refine zCl rfl (T.fold_calls [97] (by decide) (by decide)) ?_
 rintro _ w5 ⟨rfl, hC5⟩
 refine ⟨_, rfl, ?_⟩
 have hb6 := hb6.no hC5
 have hb2 := hb2.no hC5
 refine zfa rfl ?_
 refine z_store (want_L rfl) rfl rfl rfl (by assumption) (by first | exact Nat.le_refl _ | simp [Value.cells]) (by simp [Value.cells, Value.oneCell']) (fun w6 hU6 => ?_)
 have hb6 : UB w6 b6 http [97] [] [] [] := hU6.blk
 have hb2 : UB w6 b2 [] [] [] [] [] := hb2.chg hU6.chg (fun h => hne h)
 have hC6 : Chg w w6 No := (hC14.no hC5).upd hU6 h6ge
 refine zN (zK (zS (zS (zR (zfa rfl (zlB rfl ?_))))))
 refine zCl rfl host_calls ?_
 rintro _ w7 ⟨rfl, hC7⟩
 refine ⟨_, rfl, ?_⟩
 have hb6 := hb6.no hC7
 have hb2 := hb2.no hC7
 refine zP rfl (zN (zK (zF rfl (zA (zK (zS (zR (zP rfl (zP rfl (zP rfl (zAd rfl rfl (zP rfl (zLL rfl ?_)))))))))))))
 refine zl_run (want_L rfl) rfl (by decide) (r_min rfl rfl (c := 1) (by decide)) ?_
 refine z_cutN 1 1 (want_L rfl) (by decide) rfl rfl rfl rfl rfl (by decide) (by decide) ?_
 rw [show (([97] : List UInt8).drop 1).take (1 - 1) = [] from rfl]
 refine zCl rfl port_calls ?_
 rintro _ v ⟨rfl, hv⟩
 obtain rfl := hv.symm
 refine ⟨_, rfl, ?_⟩
 refine zP rfl (zP rfl (zP rfl (zP rfl (zP rfl (zN (zK (zS (zS (zR (zP rfl (zP rfl (zN (zK (zF rfl (zA (zK (zR (zP rfl (zfa rfl ?_)))))))))))))))))))
 refine z_store (want_L rfl) rfl rfl rfl (by assumption) (by first | exact Nat.le_refl _ | simp [Value.cells]) (by simp [Value.cells, Value.oneCell']) (fun w8 hU8 => ?_)
 have hb6 : UB w8 b6 http [97] [] [] [] := hU8.blk
 have hb2 : UB w8 b2 [] [] [] [] [] := hb2.chg hU8.chg (fun h => hne h)
 have hC8 : Chg w w8 No := (hC6.no hC7).upd hU8 h6ge
 refine zN (zK (zS (zR (zP rfl ?_))))
 refine zCl rfl (upTo_calls [47] [35] (by decide) (by decide) 1 (by decide) (by decide) (by decide)) ?_
 rintro _ v ⟨rfl, hv⟩
 obtain rfl := hv.symm
 refine ⟨_, rfl, ?_⟩
 refine zP rfl (zN (zK (zS (zR (zP rfl (zP rfl ?_))))))
 refine z_cutN 1 1 (want_L rfl) (by decide) rfl rfl rfl rfl rfl (by decide) (by decide) ?_
 rw [show (([47] : List UInt8).drop 1).take (1 - 1) = [] from rfl]
 refine zCl rfl (safe_calls [] [] (by decide) (by decide) (by decide)) ?_
 rintro _ v ⟨rfl, hv⟩
 obtain rfl := hv.symm
 refine ⟨_, rfl, ?_⟩
 refine zfa rfl ?_
 refine z_store (want_L rfl) rfl rfl rfl (by assumption) (by first | exact Nat.le_refl _ | simp [Value.cells]) (by simp [Value.cells, Value.oneCell']) (fun w9 hU9 => ?_)
 have hb6 : UB w9 b6 http [97] [] [] [] := hU9.blk
 have hb2 : UB w9 b2 [] [] [] [] [] := hb2.chg hU9.chg (fun h => hne h)
 have hC9 : Chg w w9 No := hC8.upd hU9 h6ge
 refine zN (zK (zS (zR (zP rfl (zP rfl ?_)))))
 refine z_cutN 0 1 (want_L rfl) (by decide) rfl rfl rfl rfl rfl (by decide) (by decide) ?_
 rw [show (([47] : List UInt8).drop 0).take (1 - 0) = [47] from rfl]
 refine zP rfl (zN (zK (zS (zR (zP rfl ?_)))))
 refine zCl rfl (upTo_calls [47] [63] (by decide) (by decide) 1 (by decide) (by decide) (by decide)) ?_
 rintro _ v ⟨rfl, hv⟩
 obtain rfl := hv.symm
 refine ⟨_, rfl, ?_⟩
 refine zP rfl (zN (zK (zS ?_)))
 refine zc_drawS (G23 b6) (fun _ => 10) (T23 w9 b6) [(2, .pointer (some ⟨b2, 0, none⟩)), (4, .string (bs http)), (5, .string (bs [47])), (6, .pointer (some ⟨b6, 0, none⟩)), (12, .int .i64 1)] (by rfl) (by kernel_rfl) (by kernel_rfl) ⟨rfl, rfl, rfl, rfl, rfl, trivial⟩ (fun w' hc _ => ⟨[], hb6.no hc, (fun h => by simp at h), hc.mono (fun _ _ h => h.elim)⟩) ?_ ?_
 ·intro i' hi' bb a y hbsz hbi hcl hwt hL
  obtain ⟨hok', hTL, hd⟩ := hL
  have hi15 : i' < 10 := hi'
  have g : ∀ j, waits _ i' j = true → ∀ dj, dstOf _ j = some dj → ∃ v, a.tmps[dj]? = some v ∧ G23 b6 j v y := fun j hw dj hdj => by
   obtain ⟨v, h1, h2⟩ := hd j hw dj hdj
   exact ⟨v, h1, h2 (fun hh => hh (.inr (Nat.le_refl _)))⟩
  obtain ⟨c0, hb, hc0, hCT⟩ := id hTL
  match i', hi15 with
  | 0, _ => exact wo_pure rfl hok' rfl ⟨gS (d0 := 89) rfl (show _ = Value.string (bs [47]) from rfl), gT (d0 := 89) rfl, hTL.put (by decide) (Chg.refl _ _), fun _ _ _ _ h => h⟩
  | 1, _ => exact wo_pure rfl hok' rfl ⟨gS (d0 := 90) rfl (show _ = Value.int .i64 1 from rfl), gT (d0 := 90) rfl, hTL.put (by decide) (Chg.refl _ _), fun _ _ _ _ h => h⟩
  | 2, _ =>
   obtain ⟨v1, hv1, e1⟩ := g 0 (by kernel_rfl) _ rfl
   obtain ⟨v2, hv2, e2⟩ := g 1 (by kernel_rfl) _ rfl
   have e1 : v1 = .string (bs [47]) := e1
   have e2 : v2 = .int .i64 1 := e2
   subst e1; subst e2
   exact wo_run rfl (want_L rfl) rfl ((hok'.cons hv1).cons hv2) (r_cutN 1 1 rfl rfl rfl rfl rfl (by decide) (by decide)) ⟨gS (d0 := 91) rfl (show Value.string (bs ((([47] : List UInt8).drop 1).take (1 - 1))) = Value.string (bs []) from rfl), gT (d0 := 91) rfl, hTL.put (by decide) (Chg.refl _ _), fun _ _ _ _ h => h⟩
  | 3, _ => exact wo_pure rfl hok' rfl ⟨gS (d0 := 92) rfl (show _ = Value.string (bs [47]) from rfl), gT (d0 := 92) rfl, hTL.put (by decide) (Chg.refl _ _), fun _ _ _ _ h => h⟩
  | 4, _ => exact wo_pure rfl hok' rfl ⟨gS (d0 := 93) rfl (show _ = Value.int .i64 1 from rfl), gT (d0 := 93) rfl, hTL.put (by decide) (Chg.refl _ _), fun _ _ _ _ h => h⟩
  | 5, _ =>
   obtain ⟨v1, hv1, e1⟩ := g 3 (by kernel_rfl) _ rfl
   obtain ⟨v2, hv2, e2⟩ := g 4 (by kernel_rfl) _ rfl
   have e1 : v1 = .string (bs [47]) := e1
   have e2 : v2 = .int .i64 1 := e2
   subst e1; subst e2
   exact wo_run rfl (want_L rfl) rfl ((hok'.cons hv1).cons hv2) (r_cutN 0 1 rfl rfl rfl rfl rfl (by decide) (by decide)) ⟨gS (d0 := 94) rfl (show Value.string (bs ((([47] : List UInt8).drop 0).take (1 - 0))) = Value.string (bs [47]) from rfl), gT (d0 := 94) rfl, hTL.put (by decide) (Chg.refl _ _), fun _ _ _ _ h => h⟩
  | 6, _ => exact wo_run rfl (want_L rfl) rfl hok' (r_fa rfl) ⟨gS (d0 := 95) rfl (show _ = Value.pointer (some ⟨b6, 4, none⟩) from rfl), gT (d0 := 95) rfl, hTL.put (by decide) (Chg.refl _ _), fun _ _ _ _ h => h⟩
  | 7, _ =>
   obtain ⟨v1, hv1, e1⟩ := g 2 (by kernel_rfl) _ rfl
   obtain ⟨v2, hv2, e2⟩ := g 6 (by kernel_rfl) _ rfl
   have e1 : v1 = .string (bs []) := e1
   have e2 : v2 = .pointer (some ⟨b6, 4, none⟩) := e2
   subst e1; subst e2
   refine wo_store rfl (want_L rfl) ((hok'.cons hv1).cons hv2) rfl rfl (by rfl) hb (by simp [Value.cells]) (by simp [Value.cells, Value.oneCell']) (fun y' hU => ?_)
   exact ⟨gN rfl, fun _ => rfl, ⟨c0, hU.blk, (fun h => hc0 (by rwa [gd_ne (by decide)] at h)), hCT.trans hU.chg (fun k _ hk => hk)⟩, fun _ _ _ _ h => h⟩
  | 8, _ => exact wo_run rfl (want_L rfl) rfl hok' (r_fa rfl) ⟨gS (d0 := 96) rfl (show _ = Value.pointer (some ⟨b6, 3, none⟩) from rfl), gT (d0 := 96) rfl, hTL.put (by decide) (Chg.refl _ _), fun _ _ _ _ h => h⟩
  | 9, _ =>
   obtain ⟨v1, hv1, e1⟩ := g 5 (by kernel_rfl) _ rfl
   obtain ⟨v2, hv2, e2⟩ := g 8 (by kernel_rfl) _ rfl
   have e1 : v1 = .string (bs [47]) := e1
   have e2 : v2 = .pointer (some ⟨b6, 3, none⟩) := e2
   subst e1; subst e2
   refine wo_store rfl (want_L rfl) ((hok'.cons hv1).cons hv2) rfl rfl (by rfl) hb (by simp [Value.cells]) (by simp [Value.cells, Value.oneCell']) (fun y' hU => ?_)
   exact ⟨gN rfl, fun _ => rfl, ⟨[47], hU.blk, fun _ => rfl, hCT.trans hU.chg (fun k _ hk => hk)⟩, fun _ _ _ _ h => h⟩
 intro bb a w10 hall hL
 refine np_zk (e := [(2, .pointer (some ⟨b2, 0, none⟩)), (4, .string (bs http)), (5, .string (bs [47])), (6, .pointer (some ⟨b6, 0, none⟩)), (12, .int .i64 1)]) ?_ hL.ok
 obtain ⟨c1, hb6, hc1, hC56⟩ := hL.t
 obtain rfl := hc1 (hall 9 (by decide))
 have hb2 : UB w10 b2 [] [] [] [] [] := hb2.chg hC56 (fun h => hne h)
 have hC10 : Chg w w10 No := hC9.trans hC56 (fun j hj hs => by have hs : j = b6 := hs; omega)
 clear hL hall hC56
 refine zK (zS (zS (zR (zP rfl ?_))))
 refine zCl rfl web_calls ?_
 rintro _ v ⟨rfl, hv⟩
 obtain rfl := hv.symm
 refine ⟨_, rfl, ?_⟩
 refine zN (zK (zT rfl ?_))
 refine zc_drawS (G25 b6) (fun _ => 11) (T25 w10 b6) [(2, .pointer (some ⟨b2, 0, none⟩)), (6, .pointer (some ⟨b6, 0, none⟩))] (by rfl) (by kernel_rfl) (by kernel_rfl) ⟨rfl, rfl, trivial⟩ (fun w' hc _ => ⟨hb6.no hc, hc.mono (fun _ _ h => h.elim)⟩) ?_ ?_
 ·intro i' hi' bb a y hbsz hbi hcl hwt hL
  obtain ⟨hok', hTL, hd⟩ := hL
  have hi15 : i' < 11 := hi'
  have g : ∀ j, waits _ i' j = true → ∀ dj, dstOf _ j = some dj → ∃ v, a.tmps[dj]? = some v ∧ G25 b6 j v y := fun j hw dj hdj => by
   obtain ⟨v, h1, h2⟩ := hd j hw dj hdj
   exact ⟨v, h1, h2 (fun hh => hh (.inr (Nat.le_refl _)))⟩
  obtain ⟨hb, hCT⟩ := id hTL
  match i', hi15 with
  | 0, _ => exact wo_run rfl (want_L rfl) rfl hok' (r_fa rfl) ⟨gS (d0 := 99) rfl (show _ = Value.pointer (some ⟨b6, 4, none⟩) from rfl), gT (d0 := 99) rfl, hTL, fun _ _ _ _ h => h⟩
  | 1, _ =>
   obtain ⟨v1, hv1, e1⟩ := g 0 (by kernel_rfl) _ rfl
   have e1 : v1 = .pointer (some ⟨b6, 4, none⟩) := e1
   subst e1
   exact wo_run rfl (want_L rfl) rfl (hok'.cons hv1) (r_loadB rfl hb (by rfl)) ⟨gS (d0 := 100) rfl (show _ = Value.string (bs []) from rfl), gT (d0 := 100) rfl, hTL, fun _ _ _ _ h => h⟩
  | 2, _ =>
   obtain ⟨v1, hv1, e1⟩ := g 1 (by kernel_rfl) _ rfl
   have e1 : v1 = .string (bs []) := e1
   subst e1
   refine wo_call rfl (want_L rfl) rfl (hok'.cons hv1) rfl (safe_calls [] [39] (by decide) (by decide) (by decide)) ?_
   rintro _ y' ⟨rfl, hy⟩
   obtain rfl := hy.symm
   exact ⟨_, rfl, gS (d0 := 101) rfl (show _ = Value.string (bs []) from rfl), gT (d0 := 101) rfl, hTL, fun _ _ _ _ h => h⟩
  | 3, _ => exact wo_run rfl (want_L rfl) rfl hok' (r_fa rfl) ⟨gS (d0 := 102) rfl (show _ = Value.pointer (some ⟨b6, 3, none⟩) from rfl), gT (d0 := 102) rfl, hTL, fun _ _ _ _ h => h⟩
  | 4, _ =>
   obtain ⟨v1, hv1, e1⟩ := g 3 (by kernel_rfl) _ rfl
   have e1 : v1 = .pointer (some ⟨b6, 3, none⟩) := e1
   subst e1
   exact wo_run rfl (want_L rfl) rfl (hok'.cons hv1) (r_loadB rfl hb (by rfl)) ⟨gS (d0 := 103) rfl (show _ = Value.string (bs [47]) from rfl), gT (d0 := 103) rfl, hTL, fun _ _ _ _ h => h⟩
  | 5, _ =>
   obtain ⟨v1, hv1, e1⟩ := g 4 (by kernel_rfl) _ rfl
   have e1 : v1 = .string (bs [47]) := e1
   subst e1
   refine wo_call rfl (want_L rfl) rfl (hok'.cons hv1) rfl path_calls ?_
   rintro _ y' ⟨rfl, hy⟩
   exact ⟨_, rfl, gS (d0 := 104) rfl (show _ = Value.string (bs [47]) from rfl), gT (d0 := 104) rfl, ⟨hTL.1.no hy, hTL.2.no hy⟩, fun _ _ _ _ h => h⟩
  | 6, _ =>
   obtain ⟨v1, hv1, e1⟩ := g 5 (by kernel_rfl) _ rfl
   have e1 : v1 = .string (bs [47]) := e1
   subst e1
   refine wo_call rfl (want_L rfl) rfl (hok'.cons hv1) rfl (safe_calls [47] [123, 125] (by decide) (by decide) (by decide)) ?_
   rintro _ y' ⟨rfl, hy⟩
   obtain rfl := hy.symm
   exact ⟨_, rfl, gS (d0 := 105) rfl (show _ = Value.string (bs [47]) from rfl), gT (d0 := 105) rfl, hTL, fun _ _ _ _ h => h⟩
  | 7, _ => exact wo_run rfl (want_L rfl) rfl hok' (r_fa rfl) ⟨gS (d0 := 106) rfl (show _ = Value.pointer (some ⟨b6, 4, none⟩) from rfl), gT (d0 := 106) rfl, hTL, fun _ _ _ _ h => h⟩
  | 8, _ =>
   obtain ⟨v1, hv1, e1⟩ := g 2 (by kernel_rfl) _ rfl
   obtain ⟨v2, hv2, e2⟩ := g 7 (by kernel_rfl) _ rfl
   have e1 : v1 = .string (bs []) := e1
   have e2 : v2 = .pointer (some ⟨b6, 4, none⟩) := e2
   subst e1; subst e2
   refine wo_store rfl (want_L rfl) ((hok'.cons hv1).cons hv2) rfl rfl (by rfl) hb (by simp [Value.cells]) (by simp [Value.cells, Value.oneCell']) (fun y' hU => ?_)
   exact ⟨gN rfl, fun _ => rfl, ⟨hU.blk, hCT.trans hU.chg (fun k _ hk => hk)⟩, fun _ _ _ _ h => h⟩
  | 9, _ => exact wo_run rfl (want_L rfl) rfl hok' (r_fa rfl) ⟨gS (d0 := 107) rfl (show _ = Value.pointer (some ⟨b6, 3, none⟩) from rfl), gT (d0 := 107) rfl, hTL, fun _ _ _ _ h => h⟩
  | 10, _ =>
   obtain ⟨v1, hv1, e1⟩ := g 6 (by kernel_rfl) _ rfl
   obtain ⟨v2, hv2, e2⟩ := g 9 (by kernel_rfl) _ rfl
   have e1 : v1 = .string (bs [47]) := e1
   have e2 : v2 = .pointer (some ⟨b6, 3, none⟩) := e2
   subst e1; subst e2
   refine wo_store rfl (want_L rfl) ((hok'.cons hv1).cons hv2) rfl rfl (by rfl) hb (by simp [Value.cells]) (by simp [Value.cells, Value.oneCell']) (fun y' hU => ?_)
   exact ⟨gN rfl, fun _ => rfl, ⟨hU.blk, hCT.trans hU.chg (fun k _ hk => hk)⟩, fun _ _ _ _ h => h⟩
 intro bb a w11 hall hL
 refine np_zk (e := [(2, .pointer (some ⟨b2, 0, none⟩)), (6, .pointer (some ⟨b6, 0, none⟩))]) ?_ hL.ok
 obtain ⟨hb6, hC67⟩ := hL.t
 have hb2 : UB w11 b2 [] [] [] [] [] := hb2.chg hC67 (fun h => hne h)
 have hC11 : Chg w w11 No := hC10.trans hC67 (fun j hj hs => by have hs : j = b6 := hs; omega)
 clear hL hall hC67
 refine zK (zS (zS (zR (zlA rfl ?_))))
 refine zCl rfl (utext_calls [97] [47] [] [] (by decide) (by decide) (by decide) (by decide)) ?_
 rintro x w12 ⟨he, hC12⟩
 have he : x = .returned (.string (bs addr)) := he
 subst he
 refine ⟨_, rfl, ?_⟩
 have hb6 := hb6.no hC12
 have hb2 := hb2.no hC12
 have hal : addr.length = 9 := rfl
 refine zLL rfl (zCF rfl rfl rfl (zN (zK (zF rfl (zA (zK (zS (zR (zlA rfl ?_)))))))))
 refine z_store (want_L rfl) rfl rfl rfl (by assumption) (by first | exact Nat.le_refl _ | simp [Value.cells]) (by simp [Value.cells, Value.oneCell']) (fun w13 hU13 => ?_)
 have hb2' : UB w13 b2 http [97] [47] [] [] := hU13.blk
 refine zP rfl (zN (zK (zE ?_)))
 exact zk_retCT (.inr rfl) rfl rfl rfl hb2' rfl ⟨rfl, (hC11.no hC12).upd hU13 h2ge⟩
theorem good_calls {w : World} : Calls Tryz.prog 98 [.string (bs addr), .int .i64 2].toArray w fun e w' => e = .returned (.bool true) ∧ Chg w w' No := by
 have hbig : big = 1000000000000 := rfl
 refine zCz 25 Tryz.func98 ?_
 refine zS (zR (zP rfl (zN (zK (zS (zR (zP rfl ?_)))))))
 refine zCl rfl parse_calls ?_
 rintro _ w1 ⟨rfl, hC1⟩
 refine ⟨_, rfl, ?_⟩
 refine zP rfl (zP rfl (zP rfl ?_))
 refine zAl (fun w2 b2 hN2 => ?_)
 have hb2 : Blk w2 b2 153 [.string ⟨#[]⟩, .string ⟨#[]⟩, .int .i64 0, .string ⟨#[]⟩, .string ⟨#[]⟩, .string ⟨#[]⟩] := hN2.blk
 unfold urlV
 refine z_store (want_L rfl) rfl rfl rfl (by assumption) (by first | exact Nat.le_refl _ | simp [Value.cells]) (by simp [Value.cells, Value.oneCell']) (fun w3 hU3 => ?_)
 have hb3 : UB w3 b2 http [97] [47] [] [] := hU3.blk
 have hC3 : Chg w w3 No := (hC1.no hN2.chg).upd hU3 (by have := hN2.at_; have := hC1.size; omega)
 refine zP rfl (zN (zK (zS (zR (zP rfl (zCT rfl rfl rfl (zP rfl (zlA rfl ?_))))))))
 refine zCl rfl (utext_calls [97] [47] [] [] (by decide) (by decide) (by decide) (by decide)) ?_
 rintro x w4 ⟨he, hC4⟩
 have he : x = .returned (.string (bs addr)) := he
 subst he
 refine ⟨_, rfl, ?_⟩
 have hb4 := hb3.no hC4
 refine zP rfl ?_
 refine zEq rfl rfl (fun _ => ?_) (fun hc => absurd rfl hc)
 refine zP rfl (zP rfl (zlA rfl ?_))
 refine zP rfl ?_
 refine zCl rfl (fit_calls [97] [] []) ?_
 rintro _ w5 ⟨rfl, hC5⟩
 refine ⟨_, rfl, ?_⟩
 refine zP rfl (zP rfl (zN (zK (zE ?_))))
 exact zk_ret1 (.inr rfl) rfl rfl ⟨rfl, (hC3.no hC4).no hC5⟩
open T (big AT)
theorem inW_calls {w : World} (x W : List UInt8) (hW : W.length ≤ 1000) : Calls Tryz.prog 59 [.string (bs x), .string (bs W)].toArray w fun e w' => e = .returned (.bool (decide (x ∈ T.wordsN [] W))) ∧ Chg w w' No := by
 refine zCz 9 Tryz.func59 ?_
 refine zS (zR (zP rfl (zN (zK (zS (zR (zP rfl ?_)))))))
 refine zCl rfl (T.wordsR_calls (l := W) (by omega)) ?_
 rintro _ w1 ⟨v, rfl, hO, hC⟩
 refine ⟨_, rfl, ?_⟩
 have hw2 := B.wordsN_few W []
 obtain ⟨A, c, hv, _⟩ := hO.rd.form
 subst hv
 refine zP rfl ?_
 refine zCl rfl (T.inR_calls _ x hO.rd (by omega)) ?_
 rintro _ w2 ⟨rfl, hw⟩
 obtain rfl := hw.symm
 refine ⟨_, rfl, ?_⟩
 refine zP rfl (zN (zK (zE ?_)))
 exact zk_ret1 (.inr rfl) rfl rfl ⟨rfl, hC⟩
theorem of_calls {w : World} {v : Value} (t : AT) (W : List UInt8) (hW : W.length ≤ 1000) (h : T.TreeAt false w v t) (hs : t.size ≤ big) : Calls Tryz.prog 33 [v, .string (bs W)].toArray w fun e w' => (∃ q : Bool, e = .returned (.bool q) ∧ (q = true ↔ T.ofA (T.wordsN [] W) t)) ∧ Chg w w' No := by
 have hbig : big = 1000000000000 := rfl
 obtain ⟨A, c, rfl, hc⟩ := h.form
 have hls := t.len_size
 refine zCz 20 Tryz.func33 ?_
 refine zS (zR (zP rfl (zN (zK (zS (zS (zR (zP rfl (zN (zK (zB ?_)))))))))))
 refine zc_loopW (ι := Nat) (fun i u => [(0, .slice A t.len c), (1, .string (bs W)), (5, .int .i64 (i : Nat))]) (fun i u => i ≤ t.len ∧ (T.ofA (T.wordsN [] W) t ↔ T.ofA (T.wordsN [] W) (t.dropN i)) ∧ Chg w u No) (fun i u => t.len - i) 0 ⟨Nat.zero_le _, by rw [show t.dropN 0 = t by cases t <;> rfl], Chg.refl _ _⟩ ⟨rfl, rfl, rfl, trivial⟩ ?_
 rintro i u ⟨hi, hall, hC⟩
 by_cases hlt : i < t.len
 rotate_left
 ·obtain rfl : i = t.len := by omega
  rw [t.drop_len] at hall
  refine zS (zS (zR (zP rfl (zP rfl (zLn rfl (zCF rfl rfl rfl (zN (zK (zF rfl (zL (zX (zX (zY (zK (zS (zR (zP rfl (zN (zK (zE ?_))))))))))))))))))))
  exact zk_ret1 (.inr rfl) rfl rfl ⟨⟨true, rfl, iff_of_true rfl (hall.2 trivial)⟩, hC⟩
 obtain ⟨b', o, c', x, k, r, A', F, K, e1, hv, hN, hA, hF, hK⟩ := (h.no hC).at_ i hlt
 cases hv
 have c0 := hN.c0
 rw [e1] at hall
 refine zS (zS (zR (zP rfl (zP rfl (zLn rfl (zCT rfl rfl rfl (zN (zK (zT rfl (zA (zK (zS (zB (zS (zR (zP rfl (zP rfl (zIa rfl rfl (zfa rfl (zL1 rfl (by assumption) ?_))))))))))))))))))))
 refine zP rfl ?_
 refine zCl rfl (inW_calls x.name W hW) ?_
 rintro _ u2 ⟨rfl, hC2⟩
 refine ⟨_, rfl, ?_⟩
 by_cases hx : x.name ∈ T.wordsN [] W
 ·rw [decide_eq_true hx]
  refine zP rfl (zN (zK (zF rfl (zA (zM (zK (zR (zP rfl (zAd rfl rfl (zP rfl (zN ?_)))))))))))
  exact zk_loopW (i + 1) ⟨by omega, by rw [t.drop_succ i x k r e1, hall]; exact ⟨fun h => h.2, fun h => ⟨hx, h⟩⟩, hC.no hC2⟩ (by omega) ⟨rfl, rfl, get_int rfl (by omega), trivial⟩
 ·rw [decide_eq_false hx]
  refine zP rfl (zN (zK (zT rfl (zS (zR (zP rfl (zN (zK (zE (zW (zQ (zQ (zW (zQ ?_))))))))))))))
  exact zk_ret1 (.inr rfl) rfl rfl ⟨⟨false, rfl, iff_of_false Bool.false_ne_true (fun h => hx (hall.1 h).1)⟩, hC.no hC2⟩
theorem wholeV_calls {w : World} (l : List UInt8) (hl : l.length ≤ 1000000) (hw : U.whole l = true) (h0 : 0 ∉ l) : Calls Tryz.prog 60 [.string (bs l)].toArray w fun e w' => e = .returned (.bool true) ∧ w' = w := by
 have hbig : big = 1000000000000 := rfl
 refine zCz 10 Tryz.func60 ?_
 refine zS (zR (zP rfl (zN (zK (zS (zR (zP rfl ?_)))))))
 refine zCl rfl (U.wholeR_calls (l := l) (by omega)) ?_
 rintro _ v ⟨rfl, hv⟩
 obtain rfl := hv.symm
 refine ⟨_, rfl, ?_⟩
 rw [hw]
 refine zP rfl (zP rfl ?_)
 refine zCl rfl (index_calls l 0 (by omega)) ?_
 rintro _ v ⟨⟨k, rfl, h1, h2, h3⟩, hv⟩
 obtain rfl := hv.symm
 refine ⟨_, rfl, ?_⟩
 have h4 : ¬ 0 ≤ k := fun h => h0 (h3.1 h)
 refine zCT rfl rfl rfl (zP rfl (zP rfl (zN (zK (zE ?_)))))
 exact zk_ret1 (.inr rfl) rfl rfl ⟨rfl, rfl⟩
def inlW : List UInt8 := [97, 32, 98, 114, 32, 99, 111, 100, 101, 32, 101, 109, 32, 105, 109, 103, 32, 115, 116, 114, 111, 110, 103, 32, 115, 117, 98, 32, 115, 117, 112]
theorem inl_words : T.wordsN [] inlW = T.tInl := by decide +kernel
theorem line_at : ∀ (t : AT) (i : Nat) (x : T.Hd) (k r : AT), T.lineA t → t.dropN i = .cons x k r → (x.name = [] ∨ x.name ∈ T.tInl) ∧ (x.name = [] → T.headT r = false)
 | .nil, 0, x, k, r, h, he => by cases he
 | .nil, i + 1, x, k, r, h, he => by cases he
 | .cons _ _ _, 0, x, k, r, h, he => by cases he; exact ⟨h.1, h.2.1⟩
 | .cons _ _ q, i + 1, x, k, r, h, he => line_at q i x k r h.2.2 he
theorem line_calls {w : World} {v : Value} (t : AT) (h : T.TreeAt false w v t) (hs : t.size ≤ big) (hl : T.lineA t) : Calls Tryz.prog 100 [v].toArray w fun e w' => e = .returned (.bool true) ∧ Chg w w' No := by
 have hbig : big = 1000000000000 := rfl
 obtain ⟨A, c, rfl, hc⟩ := h.form
 have hls := t.len_size
 refine zCz 46 Tryz.func100 ?_
 refine zS (zR (zP rfl (zN (zK (zS (zS (zR (zP rfl (zN (zK (zB ?_)))))))))))
 refine zc_loopW (ι := Nat) (fun i u => [(0, .slice A t.len c), (3, .int .i64 (i : Nat))]) (fun i u => i ≤ t.len ∧ Chg w u No) (fun i u => t.len - i) 0 ⟨Nat.zero_le _, Chg.refl _ _⟩ ⟨rfl, rfl, trivial⟩ ?_
 rintro i u ⟨hi, hC⟩
 by_cases hlt : i < t.len
 rotate_left
 ·refine zS (zS (zR (zP rfl (zP rfl (zLn rfl (zCF rfl rfl rfl (zN (zK (zF rfl (zL (zX (zX (zY (zK (zS (zR (zP rfl (zN (zK (zE ?_))))))))))))))))))))
  exact zk_ret1 (.inr rfl) rfl rfl ⟨rfl, hC⟩
 obtain ⟨b', o, c', x, k, r, A', F, K, e1, hv, hN, hA, hF, hK⟩ := (h.no hC).at_ i hlt
 cases hv
 have c0 := hN.c0
 obtain ⟨g1, g2⟩ := line_at t i x k r hl e1
 by_cases hx : x.name = []
 ·by_cases h0 : 0 < i
  ·obtain ⟨b2, o2, c2, x2, k2, r2, A2, F2, K2, e2, hv2, hN2, _⟩ := (h.no hC).at_ (i - 1) (by omega)
   cases hv2
   have d0 := hN2.c0
   have hx2 : x2.name ≠ [] := fun hh => by
    have h5 := (line_at t (i - 1) x2 k2 r2 hl e2).2 hh
    have h6 := t.drop_succ (i - 1) x2 k2 r2 e2
    rw [show i - 1 + 1 = i by omega, e1] at h6
    rw [← h6] at h5
    simp [T.headT, hx] at h5
   refine zS (zS (zR (zP rfl (zP rfl (zLn rfl (zCT rfl rfl rfl (zN (zK (zT rfl (zA (zK (zS (zB (zS (zR (zP rfl (zP rfl (zIa rfl rfl (zfa rfl (zL1 rfl (by assumption) ?_))))))))))))))))))))
   refine zEq rfl rfl (fun _ => ?_) (fun hc => absurd hx hc)
   refine zP rfl (zP rfl (zCT rfl rfl rfl (zP rfl (zP rfl (zP rfl (zP rfl (z_sub (want_L rfl) (by decide) rfl rfl (by omega) (by omega) (zIa rfl rfl (zfa rfl (zL1 rfl (cell_at d0 (by omega)) ?_))))))))))
   refine zEq rfl rfl (fun hc => absurd hc hx2) (fun _ => ?_)
   refine zP rfl (zP rfl (zP rfl (zP rfl (zIa rfl rfl (zfa rfl (zL1 rfl (by assumption) ?_))))))
   refine z_neL (want_L rfl) (by decide) rfl rfl (fun hc => absurd hx hc) (fun _ => ?_)
   refine zP rfl (zP rfl (zP rfl (zJ rfl (zJ rfl (zJ rfl (zJ rfl (zP rfl (zP rfl (zP rfl (zN (zK (zF rfl (zA (zM (zK (zR (zP rfl (zAd rfl rfl (zP rfl (zN ?_))))))))))))))))))))
   exact zk_loopW (i + 1) ⟨by omega, hC⟩ (by omega) ⟨rfl, get_int rfl (by omega), trivial⟩
  ·refine zS (zS (zR (zP rfl (zP rfl (zLn rfl (zCT rfl rfl rfl (zN (zK (zT rfl (zA (zK (zS (zB (zS (zR (zP rfl (zP rfl (zIa rfl rfl (zfa rfl (zL1 rfl (by assumption) ?_))))))))))))))))))))
   refine zEq rfl rfl (fun _ => ?_) (fun hc => absurd hx hc)
   refine zP rfl (zP rfl (zCF rfl rfl rfl (zP rfl (zP rfl (zP rfl (zP rfl (zJ rfl (zJ rfl (zJ rfl (zJ rfl (zJ rfl (zP rfl (zP rfl (zP rfl (zP rfl (zIa rfl rfl (zfa rfl (zL1 rfl (by assumption) ?_))))))))))))))))))
   refine z_neL (want_L rfl) (by decide) rfl rfl (fun hc => absurd hx hc) (fun _ => ?_)
   refine zP rfl (zP rfl (zP rfl (zJ rfl (zJ rfl (zJ rfl (zJ rfl (zP rfl (zP rfl (zP rfl (zN (zK (zF rfl (zA (zM (zK (zR (zP rfl (zAd rfl rfl (zP rfl (zN ?_))))))))))))))))))))
   exact zk_loopW (i + 1) ⟨by omega, hC⟩ (by omega) ⟨rfl, get_int rfl (by omega), trivial⟩
 ·refine zS (zS (zR (zP rfl (zP rfl (zLn rfl (zCT rfl rfl rfl (zN (zK (zT rfl (zA (zK (zS (zB (zS (zR (zP rfl (zP rfl (zIa rfl rfl (zfa rfl (zL1 rfl (by assumption) ?_))))))))))))))))))))
  refine zEq rfl rfl (fun hc => absurd hc hx) (fun _ => ?_)
  refine zP rfl (zP rfl (zJ rfl (zP rfl (zP rfl (zP rfl (zP rfl (zJ rfl (zJ rfl (zJ rfl (zJ rfl (zJ rfl (zP rfl (zP rfl (zP rfl (zP rfl (zIa rfl rfl (zfa rfl (zL1 rfl (by assumption) ?_))))))))))))))))))
  refine z_neL (want_L rfl) (by decide) rfl rfl (fun _ => ?_) (fun hc => absurd hc hx)
  refine zP rfl (zP rfl (zP rfl (zIa rfl rfl (zfa rfl (zL1 rfl (by assumption) ?_)))))
  refine zCl rfl (inW_calls x.name inlW (by decide)) ?_
  rintro _ u2 ⟨rfl, hC2⟩
  refine ⟨_, rfl, ?_⟩
  rw [inl_words, decide_eq_true (g1.resolve_left hx)]
  refine zP rfl (zP rfl (zP rfl (zN (zK (zF rfl (zA (zM (zK (zR (zP rfl (zAd rfl rfl (zP rfl (zN ?_)))))))))))))
  exact zk_loopW (i + 1) ⟨by omega, hC.no hC2⟩ (by omega) ⟨rfl, get_int rfl (by omega), trivial⟩
theorem has_at {nm : List UInt8} : ∀ (t : AT) (i : Nat) (x : T.Hd) (k r : AT), ¬ T.hasA nm t → t.dropN i = .cons x k r → x.name ≠ nm ∧ ¬ T.hasA nm k
 | .nil, 0, x, k, r, h, he => by cases he
 | .nil, i + 1, x, k, r, h, he => by cases he
 | .cons _ _ _, 0, x, k, r, h, he => by cases he; exact ⟨fun hh => h (.inl hh), fun hh => h (.inr (.inl hh))⟩
 | .cons _ _ q, i + 1, x, k, r, h, he => has_at q i x k r (fun hh => h (.inr (.inr hh))) he
theorem has_calls (nm : List UInt8) : ∀ (n : Nat) {w : World} {v : Value} (t : AT), t.size = n → n ≤ big → T.TreeAt false w v t → ¬ T.hasA nm t → Calls Tryz.prog 102 [v, .string (bs nm)].toArray w fun e w' => e = .returned (.bool false) ∧ Chg w w' No := by
 have hbig : big = 1000000000000 := rfl
 intro n
 induction n using Nat.strongRecOn with
 | _ n ih =>
 intro w v t hs hn h hno
 obtain ⟨A, c, rfl, hc⟩ := h.form
 have hls := t.len_size
 refine zCz 28 Tryz.func102 ?_
 refine zS (zR (zP rfl (zN (zK (zS (zS (zR (zP rfl (zN (zK (zB ?_)))))))))))
 refine zc_loopW (ι := Nat) (fun i u => [(0, .slice A t.len c), (1, .string (bs nm)), (5, .int .i64 (i : Nat))]) (fun i u => i ≤ t.len ∧ Chg w u No) (fun i u => t.len - i) 0 ⟨Nat.zero_le _, Chg.refl _ _⟩ ⟨rfl, rfl, rfl, trivial⟩ ?_
 rintro i u ⟨hi, hC⟩
 by_cases hlt : i < t.len
 rotate_left
 ·refine zS (zS (zR (zP rfl (zP rfl (zLn rfl (zCF rfl rfl rfl (zN (zK (zF rfl (zL (zX (zX (zY (zK (zS (zR (zP rfl (zN (zK (zE ?_))))))))))))))))))))
  exact zk_ret1 (.inr rfl) rfl rfl ⟨rfl, hC⟩
 obtain ⟨b', o, c', x, k, r, A', F, K, e1, hv, hN, hA, hF, hK⟩ := (h.no hC).at_ i hlt
 cases hv
 have c0 := hN.c0
 have c4 := hN.c4
 have hsz := t.drop_size i
 rw [e1] at hsz
 simp only [AT.size] at hsz
 obtain ⟨g1, g2⟩ := has_at t i x k r hno e1
 obtain ⟨A4, c4', rfl, _⟩ := hK.form
 refine zS (zS (zR (zP rfl (zP rfl (zLn rfl (zCT rfl rfl rfl (zN (zK (zT rfl (zA (zK (zS (zB (zS (zR (zP rfl (zP rfl (zIa rfl rfl (zfa rfl (zL1 rfl (by assumption) ?_))))))))))))))))))))
 refine zP rfl ?_
 refine zEq rfl rfl (fun hc => absurd hc g1) (fun _ => ?_)
 refine zP rfl (zP rfl (zP rfl (zIa rfl rfl (zfa rfl (zL1 rfl (by assumption) ?_)))))
 refine zP rfl ?_
 refine zCl rfl (ih k.size (by omega) k rfl (by omega) hK g2) ?_
 rintro _ u2 ⟨rfl, hC2⟩
 refine ⟨_, rfl, ?_⟩
 refine zP rfl (zN (zK (zF rfl (zA (zM (zK (zR (zP rfl (zAd rfl rfl (zP rfl (zN ?_)))))))))))
 exact zk_loopW (i + 1) ⟨by omega, hC.no hC2⟩ (by omega) ⟨rfl, rfl, get_int rfl (by omega), trivial⟩
theorem deep_calls : ∀ (f : Nat) {w : World} {v : Value} (t : AT), t.size ≤ f → f ≤ big → T.TreeAt false w v t → Calls Tryz.prog 34 [v].toArray w fun e w' => (∃ d : Nat, e = .returned (.int .i64 d) ∧ d ≤ t.size) ∧ Chg w w' No := by
 have hbig : big = 1000000000000 := rfl
 intro f
 induction f with
 | zero =>
  intro w v t hs hf h
  cases t with
  | cons x k r => simp [AT.size] at hs
  | nil =>
   obtain ⟨A, c, rfl, hc⟩ := h.form
   refine zCz 21 Tryz.func34 ?_
   refine zS (zR (zP rfl (zN (zK (zS (zR (zP rfl (zN (zK (zS (zS (zR (zP rfl (zN (zK (zB ?_))))))))))))))))
   refine zc_loopW (ι := Nat) (fun i u => [(0, .slice A 0 c), (3, .int .i64 0), (4, .int .i64 0)]) (fun i u => u = w) (fun i u => 0) 0 rfl ⟨rfl, rfl, rfl, trivial⟩ ?_
   rintro i u rfl
   refine zS (zS (zR (zP rfl (zP rfl (zLn rfl (zCF rfl rfl rfl (zN (zK (zF rfl (zL (zX (zX (zY (zK (zS (zR (zP rfl (zP rfl (zN (zK (zE ?_)))))))))))))))))))))
   exact zk_ret1 (.inr rfl) rfl rfl ⟨⟨0, rfl, Nat.zero_le _⟩, Chg.refl _ _⟩
 | succ f ih' =>
  intro w v t hs hf h
  have ih : ∀ (t : AT), t.size ≤ f → ∀ {w : World} {v : Value}, T.TreeAt false w v t → Calls Tryz.prog 34 [v].toArray w fun e w' => (∃ d : Nat, e = .returned (.int .i64 d) ∧ d ≤ t.size) ∧ Chg w w' No := fun t ht w v h => ih' t ht (by omega) h
  obtain ⟨A, c, rfl, hc⟩ := h.form
  have hls := t.len_size
  refine zCz 21 Tryz.func34 ?_
  refine zS (zR (zP rfl (zN (zK (zS (zR (zP rfl (zN (zK (zS (zS (zR (zP rfl (zN (zK (zB ?_))))))))))))))))
  refine zc_loopW (ι := Nat × Nat) (fun q u => [(0, .slice A t.len c), (3, .int .i64 (q.2 : Nat)), (4, .int .i64 (q.1 : Nat))]) (fun q u => q.1 ≤ t.len ∧ q.2 ≤ t.size ∧ Chg w u No) (fun q u => t.len - q.1) (0, 0) ⟨Nat.zero_le _, Nat.zero_le _, Chg.refl _ _⟩ ⟨rfl, rfl, rfl, trivial⟩ ?_
  rintro ⟨i, m⟩ u ⟨hi, hm, hC⟩
  dsimp only at hi hm ⊢
  by_cases hlt : i < t.len
  rotate_left
  ·refine zS (zS (zR (zP rfl (zP rfl (zLn rfl (zCF rfl rfl rfl (zN (zK (zF rfl (zL (zX (zX (zY (zK (zS (zR (zP rfl (zP rfl (zN (zK (zE ?_)))))))))))))))))))))
   exact zk_ret1 (.inr rfl) rfl rfl ⟨⟨m, rfl, hm⟩, hC⟩
  obtain ⟨b', o, c', x, k, r, A', F, K, e1, hv, hN, hA, hF, hK⟩ := (h.no hC).at_ i hlt
  cases hv
  have hsz := t.drop_size i
  rw [e1] at hsz
  simp only [AT.size] at hsz
  obtain ⟨A4, c4, rfl, _⟩ := hK.form
  have c4' := hN.c4
  refine zS (zS (zR (zP rfl (zP rfl (zLn rfl (zCT rfl rfl rfl (zN (zK (zT rfl (zA (zK (zS (zB (zR (zP rfl (zP rfl (zP rfl (zIa rfl rfl (zfa rfl (zL1 rfl (by assumption) ?_))))))))))))))))))))
  refine zCl rfl (ih k (by omega) hK) ?_
  rintro _ u2 ⟨⟨d, rfl, hd⟩, hC2⟩
  refine ⟨_, rfl, ?_⟩
  refine zAd rfl rfl ?_
  refine zl_run (want_L rfl) rfl (by decide) (r_max rfl rfl (c := ((max m (1 + d) : Nat) : Int)) (by split <;> omega)) ?_
  refine zP rfl (zN (zM (zK (zR (zP rfl (zAd rfl rfl (zP rfl (zN ?_))))))))
  exact zk_loopW (i + 1, max m (1 + d)) ⟨by dsimp only; omega, by dsimp only; omega, hC.no hC2⟩ (by dsimp only; omega) ⟨rfl, rfl, get_int rfl (by dsimp only; omega), trivial⟩
open T (big AT)
def KidT (nm : List UInt8) (k : AT) : Prop :=
 (nm ∈ ([[104, 50], [112], [112, 114, 101]] : List (List UInt8)) ∧ T.lineA k ∧ ∃ i x q r, i < k.len ∧ k.dropN i = .cons x q r ∧ x.name = T.nImg) ∨
 (nm = [101, 109] ∧ T.lineA k ∧ 0 < k.len ∧ ¬ T.hasA nm k) ∨ (nm = T.nImg ∧ k = .nil) ∨ (nm = [117, 108] ∧ T.ofA (T.wordsN [] [108, 105]) k ∧ 0 < k.len) ∨
 (nm = [116, 97, 98, 108, 101] ∧ T.ofA (T.wordsN [] [116, 98, 111, 100, 121]) k ∧ k.len = 1) ∨ (nm = [116, 98, 111, 100, 121] ∧ T.ofA (T.wordsN [] [116, 114]) k ∧ 0 < k.len) ∨
 (nm = [116, 114] ∧ T.ofA (T.wordsN [] [116, 100, 32, 116, 104]) k ∧ 0 < k.len) ∨ (nm ∈ ([[108, 105], [116, 104]] : List (List UInt8)) ∧ T.lineA k)
theorem trim1_calls {w : World} (l : List UInt8) (hl : l.length ≤ big) : Calls Tryz.prog 141 [.string (bs l)].toArray w fun e w' => (∃ s : List UInt8, e = .returned (.string (bs s)) ∧ s.length ≤ l.length) ∧ w' = w := by
 have hbig : big = 1000000000000 := rfl
 refine zCz 34 Tryz.func141 ?_
 repeat' (first | (show ZL _ _ _ _ _ _ _; first | (show ZL _ _ _ [] _ _ _; refine zN ?_) | refine a_pure ?_ | refine a_skip ?_ | (show ZL _ _ _ (⟨_, (.load _ _), _, _, _, _⟩ :: _) _ _ _; first | refine a_loadB rfl ?_ | refine a_load1 rfl ?_ | refine a_loadAB rfl ?_) | (show ZL _ _ _ (⟨_, (.call _), _, _, _, _⟩ :: _) _ _ _; first | refine a_len rfl ?_ | refine a_lenL rfl ?_ | refine a_min rfl rfl fun _ _ _ _ => ?_ | refine a_max rfl rfl fun _ _ _ _ => ?_) | (show ZL _ _ _ (⟨_, (.binOp .add _ _ _ _), _, _, _, _⟩ :: _) _ _ _; first | refine a_catW rfl rfl fun _ _ => ?_ | refine a_add rfl rfl ?_ | refine a_add8 rfl rfl ?_ | refine a_addW rfl rfl fun _ _ => ?_) | (show ZL _ _ _ (⟨_, (.binOp .sub _ _ _ _), _, _, _, _⟩ :: _) _ _ _; first | refine a_sub rfl rfl ?_ | refine a_subW rfl rfl fun _ _ => ?_) | (show ZL _ _ _ (⟨_, (.fieldAddr _ _ _), _, _, _, _⟩ :: _) _ _ _; refine a_fa rfl ?_) | (show ZL _ _ _ (⟨_, (.indexAddr _ _ _), _, _, _, _⟩ :: _) _ _ _; refine a_ia rfl rfl ?_) | (show ZL _ _ _ (⟨_, (.slice _ _ _ _ _), _, _, _, _⟩ :: _) _ _ _; refine a_cutW rfl rfl rfl fun _ _ => ?_) | (show ZL _ _ _ (⟨_, (.index _ _ _), _, _, _, _⟩ :: _) _ _ _; refine a_idxW rfl rfl fun _ _ => ?_) | (show ZL _ _ _ (⟨_, (.convert _ _ _), _, _, _, _⟩ :: _) _ _ _; refine a_conv rfl ?_) | (show ZL _ _ _ (⟨_, (.binOp _ _ _ _ _), _, _, _, _⟩ :: _) _ _ _; first | refine a_cmpT rfl rfl rfl ?_ | refine a_cmpF rfl rfl rfl ?_ | refine a_shr rfl rfl fun _ _ => ?_ | refine a_and rfl rfl fun _ _ => ?_ | refine a_mul rfl rfl ?_) | (show ZL _ _ _ (⟨_, (.binOp _ _ _ _ _), _, _, _, _⟩ :: _) _ _ _; first | refine a_cmp rfl rfl rfl (fun _ => ?_) fun _ => ?_ | refine a_eq rfl rfl (fun _ => ?_) fun _ => ?_ | refine a_ne rfl rfl (fun _ => ?_) fun _ => ?_)) | (show ZC _ _ _ _ _ _; first | refine zS ?_ | refine zR ?_ | refine zB ?_ | refine zA ?_ | refine zL ?_ | refine zE ?_ | refine zT rfl ?_ | refine zF rfl ?_) | (show ZK _ _ _ _ _; first | refine zK ?_ | refine zX ?_ | refine zQ ?_ | refine zW ?_ | refine zM ?_ | refine zY ?_ | refine zY' rfl ?_))
 refine zc_midBX (ι := Nat) (fun k u => k ≤ l.length ∧ u = w) (fun k => [(0, .string (bs l)), (3, .int .i64 k), (4, .int .i64 l.length)]) ?_ ?_
 ·refine zc_loopW (ι := Nat) (fun i u => [(0, .string (bs l)), (3, .int .i64 (i : Nat)), (4, .int .i64 l.length)]) (fun i u => i ≤ l.length ∧ u = w) (fun i u => l.length - i) 0 ⟨Nat.zero_le _, rfl⟩ ⟨rfl, rfl, rfl, trivial⟩ ?_
  rintro i u ⟨hi, hu⟩
  obtain rfl := hu.symm
  by_cases hlt : i < l.length
  ·refine zS (zS (zR (zP rfl (zP rfl (zCT rfl rfl rfl (zP rfl (zP rfl (zP rfl (zIx rfl rfl ?_)))))))))
   refine zCl rfl (T.blankR_calls _) ?_
   rintro _ v ⟨rfl, hv⟩
   obtain rfl := hv.symm
   refine ⟨_, rfl, ?_⟩
   cases T.blankN _
   ·refine zP rfl (zN (zK (zF rfl (zL (zX (zX (zY ?_)))))))
    exact zk_midX i ⟨hi, rfl⟩ ⟨rfl, rfl, rfl, trivial⟩
   ·refine zP rfl (zN (zK (zT rfl (zA (zK (zB (zR (zP rfl (zAd rfl rfl (zP rfl (zN (zM ?_))))))))))))
    exact zk_loopW (i + 1) ⟨by omega, rfl⟩ (by omega) ⟨rfl, get_int rfl (by omega), rfl, trivial⟩
  ·refine zS (zS (zR (zP rfl (zP rfl (zCF rfl rfl rfl (zP rfl (zP rfl (zP rfl (zJ rfl (zJ rfl (zP rfl (zN (zK (zF rfl (zL (zX (zX (zY ?_))))))))))))))))))
   exact zk_midX i ⟨hi, rfl⟩ ⟨rfl, rfl, rfl, trivial⟩
 rintro k u ⟨hk, hu⟩
 obtain rfl := hu.symm
 refine zS (zB ?_)
 refine zc_midBX (ι := Nat) (fun m v => k ≤ m ∧ m ≤ l.length ∧ v = w) (fun m => [(0, .string (bs l)), (3, .int .i64 k), (4, .int .i64 m)]) ?_ ?_
 ·refine zc_loopW (ι := Nat) (fun i u => [(0, .string (bs l)), (3, .int .i64 k), (4, .int .i64 (i : Nat))]) (fun i u => k ≤ i ∧ i ≤ l.length ∧ u = w) (fun i u => i) l.length ⟨hk, Nat.le_refl _, rfl⟩ ⟨rfl, rfl, rfl, trivial⟩ ?_
  rintro i u ⟨hki, hi, hu⟩
  obtain rfl := hu.symm
  by_cases hlt : k < i
  ·refine zS (zS (zR (zP rfl (zP rfl (zCT rfl rfl rfl (zP rfl (zP rfl (zP rfl (z_sub (want_L rfl) (by decide) rfl rfl (by omega) (by omega) ?_)))))))))
   refine z_idxM (want_L rfl) (by decide) rfl rfl (by omega) (by omega) ?_
   refine zCl rfl (T.blankR_calls _) ?_
   rintro _ v ⟨rfl, hv⟩
   obtain rfl := hv.symm
   refine ⟨_, rfl, ?_⟩
   cases T.blankN _
   ·refine zP rfl (zN (zK (zF rfl (zL (zX (zX (zY ?_)))))))
    exact zk_midX i ⟨hki, hi, rfl⟩ ⟨rfl, rfl, rfl, trivial⟩
   ·refine zP rfl (zN (zK (zT rfl (zA (zK (zB (zR (zP rfl (z_sub want_none (by decide) rfl rfl (by omega) (by omega) (zP rfl (zN (zM ?_))))))))))))
    exact zk_loopW (i - 1) ⟨by omega, by omega, rfl⟩ (by omega) ⟨rfl, rfl, get_int rfl (by omega), trivial⟩
  ·refine zS (zS (zR (zP rfl (zP rfl (zCF rfl rfl rfl (zP rfl (zP rfl (zP rfl (zJ rfl (zJ rfl (zJ rfl (zP rfl (zN (zK (zF rfl (zL (zX (zX (zY ?_)))))))))))))))))))
   exact zk_midX i ⟨hki, hi, rfl⟩ ⟨rfl, rfl, rfl, trivial⟩
 rintro m u ⟨hkm, hm, hu⟩
 obtain rfl := hu.symm
 refine zS (zR (zP rfl (zP rfl (zP rfl ?_))))
 refine z_cutN k m (want_L rfl) (by decide) rfl rfl rfl rfl rfl (by omega) (by omega) ?_
 refine zP rfl (zN (zK (zE ?_)))
 exact zk_ret1 (.inr rfl) rfl rfl ⟨⟨_, rfl, by rw [List.length_take, List.length_drop]; omega⟩, rfl⟩
theorem wt_at {t : AT} {i : Nat} {x : T.Hd} {k r : AT} (h : t.dropN i = .cons x k r) : 6 * x.text.length ≤ t.wt ∧ k.wt ≤ t.wt := by
 have := t.drop_text i
 rw [h] at this
 simp only [AT.wt] at this
 omega
theorem blank_calls : ∀ (n : Nat) {w : World} {v : Value} (t : AT), t.size = n → n ≤ big → t.wt ≤ big → T.TreeAt false w v t → Calls Tryz.prog 101 [v].toArray w fun e w' => (∃ q : Bool, e = .returned (.bool q) ∧ (q = true → ∀ i x k r, i < t.len → t.dropN i = .cons x k r → x.name ≠ T.nImg)) ∧ Chg w w' No := by
 have hbig : big = 1000000000000 := rfl
 intro n
 induction n using Nat.strongRecOn with
 | _ n ih =>
 intro w v t hs hn hwt h
 obtain ⟨A, c, rfl, hc⟩ := h.form
 have hls := t.len_size
 refine zCz 42 Tryz.func101 ?_
 refine zS (zR (zP rfl (zN (zK (zS (zS (zR (zP rfl (zN (zK (zB ?_)))))))))))
 refine zc_loopW (ι := Nat) (fun i u => [(0, .slice A t.len c), (3, .int .i64 (i : Nat))]) (fun i u => i ≤ t.len ∧ (∀ j x k r, j < i → t.dropN j = .cons x k r → x.name ≠ T.nImg) ∧ Chg w u No) (fun i u => t.len - i) 0 ⟨Nat.zero_le _, fun j _ _ _ hj => absurd hj (Nat.not_lt_zero j), Chg.refl _ _⟩ ⟨rfl, rfl, trivial⟩ ?_
 rintro i u ⟨hi, hno, hC⟩
 by_cases hlt : i < t.len
 rotate_left
 ·obtain rfl : i = t.len := by omega
  refine zS (zS (zR (zP rfl (zP rfl (zLn rfl (zCF rfl rfl rfl (zN (zK (zF rfl (zL (zX (zX (zY (zK (zS (zR (zP rfl (zN (zK (zE ?_))))))))))))))))))))
  exact zk_ret1 (.inr rfl) rfl rfl ⟨⟨true, rfl, fun _ => hno⟩, hC⟩
 obtain ⟨b', o, c', x, k, r, A', F, K, e1, hv, hN, hA, hF, hK⟩ := (h.no hC).at_ i hlt
 cases hv
 obtain ⟨hx, hk⟩ := wt_at e1
 have c0 := hN.c0
 have c2 := hN.c2
 have c4 := hN.c4
 have hsz := t.drop_size i
 rw [e1] at hsz
 simp only [AT.size] at hsz
 obtain ⟨A4, c4', rfl, _⟩ := hK.form
 have hnext : x.name ≠ T.nImg → ∀ j x k r, j < i + 1 → t.dropN j = .cons x k r → x.name ≠ T.nImg := fun hne j x' k' r' hj he => by
  rcases Nat.lt_or_ge j i with h1 | h1
  ·exact hno j x' k' r' h1 he
  ·obtain rfl : j = i := by omega
   rw [e1] at he; cases he; exact hne
 have hfalse : ∃ q : Bool, Ending.returned (.bool false) = .returned (.bool q) ∧ (q = true → ∀ i x k r, i < t.len → t.dropN i = .cons x k r → x.name ≠ T.nImg) := ⟨false, rfl, fun h => by cases h⟩
 by_cases himg : x.name = T.nImg
 ·refine zS (zS (zR (zP rfl (zP rfl (zLn rfl (zCT rfl rfl rfl (zN (zK (zT rfl (zA (zK (zS (zB (zS (zR (zP rfl (zP rfl (zIa rfl rfl (zfa rfl (zL1 rfl (by assumption) ?_))))))))))))))))))))
  refine zEq rfl rfl (fun _ => ?_) (fun hc => absurd (by assumption) hc)
  refine zP rfl (zP rfl (zP rfl (zJ rfl (zJ rfl (zJ rfl (zJ rfl (zP rfl (zP rfl (zP rfl (zJ rfl (zJ rfl (zJ rfl (zJ rfl (zJ rfl (zP rfl (zP rfl (zP rfl (zP rfl (zP rfl (zJ rfl (zJ rfl (zJ rfl (zJ rfl (zP rfl (zP rfl (zN (zK (zT rfl (zS (zR (zP rfl (zN (zK (zE (zW (zQ (zQ (zW (zQ ?_)))))))))))))))))))))))))))))))))))))))
  exact zk_ret1 (.inr rfl) rfl rfl ⟨hfalse, hC⟩
 have hih : ∀ {u2 : World}, Chg u u2 No → Calls Tryz.prog 101 [.slice A4 k.len c4'].toArray u2 _ := fun hc2 => ih k.size (by omega) k rfl (by omega) (by omega) (hK.no hc2)
 by_cases hx0 : x.name = []
 ·refine zS (zS (zR (zP rfl (zP rfl (zLn rfl (zCT rfl rfl rfl (zN (zK (zT rfl (zA (zK (zS (zB (zS (zR (zP rfl (zP rfl (zIa rfl rfl (zfa rfl (zL1 rfl (by assumption) ?_))))))))))))))))))))
  refine zEq rfl rfl (fun hc => absurd hc (by assumption)) (fun _ => ?_)
  refine zP rfl (zP rfl (zP rfl (zIa rfl rfl (zfa rfl (zL1 rfl (by assumption) ?_)))))
  refine zEq rfl rfl (fun _ => ?_) (fun hc => absurd (by assumption) hc)
  refine zP rfl (zP rfl (zP rfl (zIa rfl rfl (zfa rfl (zL1 rfl (by assumption) ?_)))))
  refine zCl rfl (trim1_calls x.text (by omega)) ?_
  rintro _ u2 ⟨⟨s, rfl, _⟩, hu2⟩
  obtain rfl := hu2.symm
  refine ⟨_, rfl, ?_⟩
  by_cases hs0 : s = []
  ·refine z_neL (want_L rfl) (by decide) rfl rfl (fun hc => absurd (by assumption) hc) (fun _ => ?_)
   refine zP rfl (zP rfl (zP rfl (zP rfl (zP rfl (zIa rfl rfl (zfa rfl (zL1 rfl (by assumption) ?_)))))))
   refine zCl rfl (hih (Chg.refl _ _)) ?_
   rintro _ u2 ⟨⟨q, rfl, _⟩, hC2⟩
   refine ⟨_, rfl, ?_⟩
   cases q
   ·refine zP rfl (zP rfl (zN (zK (zT rfl (zS (zR (zP rfl (zN (zK (zE (zW (zQ (zQ (zW (zQ ?_)))))))))))))))
    exact zk_ret1 (.inr rfl) rfl rfl ⟨hfalse, hC.no hC2⟩
   ·refine zP rfl (zP rfl (zN (zK (zF rfl (zA (zM (zK (zR (zP rfl (zAd rfl rfl (zP rfl (zN ?_))))))))))))
    exact zk_loopW (i + 1) ⟨by omega, hnext himg, hC.no hC2⟩ (by omega) ⟨rfl, get_int rfl (by omega), trivial⟩
  ·refine z_neL (want_L rfl) (by decide) rfl rfl (fun _ => ?_) (fun hc => absurd hc (by assumption))
   refine zP rfl (zP rfl (zP rfl (zP rfl (zP rfl (zJ rfl (zJ rfl (zJ rfl (zJ rfl (zP rfl (zP rfl (zN (zK (zT rfl (zS (zR (zP rfl (zN (zK (zE (zW (zQ (zQ (zW (zQ ?_))))))))))))))))))))))))
   exact zk_ret1 (.inr rfl) rfl rfl ⟨hfalse, hC⟩
 ·refine zS (zS (zR (zP rfl (zP rfl (zLn rfl (zCT rfl rfl rfl (zN (zK (zT rfl (zA (zK (zS (zB (zS (zR (zP rfl (zP rfl (zIa rfl rfl (zfa rfl (zL1 rfl (by assumption) ?_))))))))))))))))))))
  refine zEq rfl rfl (fun hc => absurd hc (by assumption)) (fun _ => ?_)
  refine zP rfl (zP rfl (zP rfl (zIa rfl rfl (zfa rfl (zL1 rfl (by assumption) ?_)))))
  refine zEq rfl rfl (fun hc => absurd hc (by assumption)) (fun _ => ?_)
  refine zP rfl (zP rfl (zP rfl (zJ rfl (zJ rfl (zJ rfl (zJ rfl (zJ rfl (zP rfl (zP rfl (zP rfl (zP rfl (zP rfl (zIa rfl rfl (zfa rfl (zL1 rfl (by assumption) ?_)))))))))))))))
  refine zCl rfl (hih (Chg.refl _ _)) ?_
  rintro _ u2 ⟨⟨q, rfl, _⟩, hC2⟩
  refine ⟨_, rfl, ?_⟩
  cases q
  ·refine zP rfl (zP rfl (zN (zK (zT rfl (zS (zR (zP rfl (zN (zK (zE (zW (zQ (zQ (zW (zQ ?_)))))))))))))))
   exact zk_ret1 (.inr rfl) rfl rfl ⟨hfalse, hC.no hC2⟩
  ·refine zP rfl (zP rfl (zN (zK (zF rfl (zA (zM (zK (zR (zP rfl (zAd rfl rfl (zP rfl (zN ?_))))))))))))
   exact zk_loopW (i + 1) ⟨by omega, hnext himg, hC.no hC2⟩ (by omega) ⟨rfl, get_int rfl (by omega), trivial⟩
open T (big AT)
theorem size_wt : ∀ a : AT, 10 * a.size ≤ a.wt
 | .nil => Nat.le_refl _
 | .cons x k r => by
  have h1 := size_wt k
  have h2 := size_wt r
  simp only [AT.size, AT.wt]; omega
section
variable {w : World} {A F K : Value} {tx : List UInt8} {k : AT}
theorem kids_h2 (hA : T.isSl A) (hF : T.isSl F) (hK : T.TreeAt false w K k) (hk : k.wt ≤ big) (hl : T.lineA k) (himg : ∃ i x q r, i < k.len ∧ k.dropN i = .cons x q r ∧ x.name = T.nImg) : Calls Tryz.prog 62 [.agg #[.string (bs [104, 50]), A, .string (bs tx), F, K]].toArray w fun e w' => e = .returned (.bool true) ∧ Chg w w' No := by
 have hbig : big = 1000000000000 := rfl
 have hsz := size_wt k
 have hln := k.len_size
 obtain ⟨A1, m1, c1, rfl⟩ := hA
 obtain ⟨A2, m2, c2, rfl⟩ := hF
 obtain ⟨AK, cK, rfl, hcK⟩ := hK.form
 refine zCz 107 Tryz.func62 ?_
 refine zS (zR ?_)
 refine zBx rfl (fun w1 b1 hN1 => ?_)
 have hb1 : Blk w1 b1 43 [.string (bs [104, 50]), .slice A1 m1 c1, .string (bs tx), .slice A2 m2 c2, .slice AK k.len cK] := hN1.blk
 have hK1 := hK.no hN1.chg
 have hX := hN1.chg
 refine zP rfl (zN (zK (zS (zR (zfa rfl (zlB rfl ?_))))))
 refine zP rfl (zN (zK (zS (zS (zR (zfa rfl (zlB rfl ?_)))))))
 refine zN (zK (zB (zS (zS (zR ?_)))))
 refine zEq rfl rfl (fun _ => ?_) (fun hc => absurd hc (by decide))
 refine zP rfl (zN (zK (zT rfl (zA (zK (zT rfl (zS (zR (zP rfl ?_)))))))))
 refine zCl rfl (line_calls k hK1 (by omega) hl) ?_
 rintro _ w2 ⟨rfl, hC2⟩
 refine ⟨_, rfl, ?_⟩
 have hb2 := hb1.no hC2
 refine zP rfl (zP rfl ?_)
 refine zCl rfl (blank_calls k.size k rfl (by omega) hk (hK1.no hC2)) ?_
 rintro _ w3 ⟨⟨q, rfl, hq⟩, hC3⟩
 refine ⟨_, rfl, ?_⟩
 obtain rfl : q = false := by
  cases q
  ·rfl
  ·obtain ⟨i, x, q, r, g1, g2, g3⟩ := himg
   exact absurd g3 (hq rfl i x q r g1 g2)
 refine zP rfl (zP rfl (zP rfl (zN (zK (zE (zW (zQ ?_)))))))
 exact zk_ret1 (.inr rfl) rfl rfl ⟨rfl, (hX.no hC2).no hC3⟩
theorem kids_p (hA : T.isSl A) (hF : T.isSl F) (hK : T.TreeAt false w K k) (hk : k.wt ≤ big) (hl : T.lineA k) (himg : ∃ i x q r, i < k.len ∧ k.dropN i = .cons x q r ∧ x.name = T.nImg) : Calls Tryz.prog 62 [.agg #[.string (bs [112]), A, .string (bs tx), F, K]].toArray w fun e w' => e = .returned (.bool true) ∧ Chg w w' No := by
 have hbig : big = 1000000000000 := rfl
 have hsz := size_wt k
 have hln := k.len_size
 obtain ⟨A1, m1, c1, rfl⟩ := hA
 obtain ⟨A2, m2, c2, rfl⟩ := hF
 obtain ⟨AK, cK, rfl, hcK⟩ := hK.form
 refine zCz 107 Tryz.func62 ?_
 refine zS (zR ?_)
 refine zBx rfl (fun w1 b1 hN1 => ?_)
 have hb1 : Blk w1 b1 43 [.string (bs [112]), .slice A1 m1 c1, .string (bs tx), .slice A2 m2 c2, .slice AK k.len cK] := hN1.blk
 have hK1 := hK.no hN1.chg
 have hX := hN1.chg
 refine zP rfl (zN (zK (zS (zR (zfa rfl (zlB rfl ?_))))))
 refine zP rfl (zN (zK (zS (zS (zR (zfa rfl (zlB rfl ?_)))))))
 refine zN (zK (zB (zS (zS (zR ?_)))))
 refine zEq rfl rfl (fun hc => absurd hc (by decide)) (fun _ => ?_)
 refine zP rfl (zN (zK (zF rfl (zS (zR ?_)))))
 refine zEq rfl rfl (fun hc => absurd hc (by decide)) (fun _ => ?_)
 refine zP rfl (zN (zK (zF rfl (zS (zR ?_)))))
 refine zEq rfl rfl (fun hc => absurd hc (by decide)) (fun _ => ?_)
 refine zP rfl (zN (zK (zF rfl (zS (zR ?_)))))
 refine zEq rfl rfl (fun hc => absurd hc (by decide)) (fun _ => ?_)
 refine zP rfl (zN (zK (zF rfl (zS (zR ?_)))))
 refine zEq rfl rfl (fun hc => absurd hc (by decide)) (fun _ => ?_)
 refine zP rfl (zN (zK (zF rfl (zS (zR ?_)))))
 refine zEq rfl rfl (fun _ => ?_) (fun hc => absurd hc (by decide))
 refine zP rfl (zN (zK (zT rfl (zA (zK (zT rfl (zS (zR (zP rfl ?_)))))))))
 refine zCl rfl (line_calls k hK1 (by omega) hl) ?_
 rintro _ w2 ⟨rfl, hC2⟩
 refine ⟨_, rfl, ?_⟩
 have hb2 := hb1.no hC2
 refine zP rfl (zP rfl ?_)
 refine zCl rfl (blank_calls k.size k rfl (by omega) hk (hK1.no hC2)) ?_
 rintro _ w3 ⟨⟨q, rfl, hq⟩, hC3⟩
 refine ⟨_, rfl, ?_⟩
 obtain rfl : q = false := by
  cases q
  ·rfl
  ·obtain ⟨i, x, q, r, g1, g2, g3⟩ := himg
   exact absurd g3 (hq rfl i x q r g1 g2)
 refine zP rfl (zP rfl (zP rfl (zN (zK (zE (zW (zQ ?_)))))))
 exact zk_ret1 (.inr rfl) rfl rfl ⟨rfl, (hX.no hC2).no hC3⟩
theorem kids_pre (hA : T.isSl A) (hF : T.isSl F) (hK : T.TreeAt false w K k) (hk : k.wt ≤ big) (hl : T.lineA k) (himg : ∃ i x q r, i < k.len ∧ k.dropN i = .cons x q r ∧ x.name = T.nImg) : Calls Tryz.prog 62 [.agg #[.string (bs [112, 114, 101]), A, .string (bs tx), F, K]].toArray w fun e w' => e = .returned (.bool true) ∧ Chg w w' No := by
 have hbig : big = 1000000000000 := rfl
 have hsz := size_wt k
 have hln := k.len_size
 obtain ⟨A1, m1, c1, rfl⟩ := hA
 obtain ⟨A2, m2, c2, rfl⟩ := hF
 obtain ⟨AK, cK, rfl, hcK⟩ := hK.form
 refine zCz 107 Tryz.func62 ?_
 refine zS (zR ?_)
 refine zBx rfl (fun w1 b1 hN1 => ?_)
 have hb1 : Blk w1 b1 43 [.string (bs [112, 114, 101]), .slice A1 m1 c1, .string (bs tx), .slice A2 m2 c2, .slice AK k.len cK] := hN1.blk
 have hK1 := hK.no hN1.chg
 have hX := hN1.chg
 refine zP rfl (zN (zK (zS (zR (zfa rfl (zlB rfl ?_))))))
 refine zP rfl (zN (zK (zS (zS (zR (zfa rfl (zlB rfl ?_)))))))
 refine zN (zK (zB (zS (zS (zR ?_)))))
 refine zEq rfl rfl (fun hc => absurd hc (by decide)) (fun _ => ?_)
 refine zP rfl (zN (zK (zF rfl (zS (zR ?_)))))
 refine zEq rfl rfl (fun hc => absurd hc (by decide)) (fun _ => ?_)
 refine zP rfl (zN (zK (zF rfl (zS (zR ?_)))))
 refine zEq rfl rfl (fun hc => absurd hc (by decide)) (fun _ => ?_)
 refine zP rfl (zN (zK (zF rfl (zS (zR ?_)))))
 refine zEq rfl rfl (fun hc => absurd hc (by decide)) (fun _ => ?_)
 refine zP rfl (zN (zK (zF rfl (zS (zR ?_)))))
 refine zEq rfl rfl (fun hc => absurd hc (by decide)) (fun _ => ?_)
 refine zP rfl (zN (zK (zF rfl (zS (zR ?_)))))
 refine zEq rfl rfl (fun hc => absurd hc (by decide)) (fun _ => ?_)
 refine zP rfl (zN (zK (zF rfl (zR ?_))))
 refine zEq rfl rfl (fun _ => ?_) (fun hc => absurd hc (by decide))
 refine zP rfl (zN (zK (zT rfl (zS (zR (zP rfl ?_))))))
 refine zCl rfl (line_calls k hK1 (by omega) hl) ?_
 rintro _ w2 ⟨rfl, hC2⟩
 refine ⟨_, rfl, ?_⟩
 have hb2 := hb1.no hC2
 refine zP rfl (zP rfl ?_)
 refine zCl rfl (blank_calls k.size k rfl (by omega) hk (hK1.no hC2)) ?_
 rintro _ w3 ⟨⟨q, rfl, hq⟩, hC3⟩
 refine ⟨_, rfl, ?_⟩
 obtain rfl : q = false := by
  cases q
  ·rfl
  ·obtain ⟨i, x, q, r, g1, g2, g3⟩ := himg
   exact absurd g3 (hq rfl i x q r g1 g2)
 refine zP rfl (zP rfl (zP rfl (zN (zK (zE (zW (zQ ?_)))))))
 exact zk_ret1 (.inr rfl) rfl rfl ⟨rfl, (hX.no hC2).no hC3⟩
theorem kids_em (hA : T.isSl A) (hF : T.isSl F) (hK : T.TreeAt false w K k) (hk : k.wt ≤ big) (hl : T.lineA k) (hp : 0 < k.len) (hh : ¬ T.hasA [101, 109] k) : Calls Tryz.prog 62 [.agg #[.string (bs [101, 109]), A, .string (bs tx), F, K]].toArray w fun e w' => e = .returned (.bool true) ∧ Chg w w' No := by
 have hbig : big = 1000000000000 := rfl
 have hsz := size_wt k
 have hln := k.len_size
 obtain ⟨A1, m1, c1, rfl⟩ := hA
 obtain ⟨A2, m2, c2, rfl⟩ := hF
 obtain ⟨AK, cK, rfl, hcK⟩ := hK.form
 refine zCz 107 Tryz.func62 ?_
 refine zS (zR ?_)
 refine zBx rfl (fun w1 b1 hN1 => ?_)
 have hb1 : Blk w1 b1 43 [.string (bs [101, 109]), .slice A1 m1 c1, .string (bs tx), .slice A2 m2 c2, .slice AK k.len cK] := hN1.blk
 have hK1 := hK.no hN1.chg
 have hX := hN1.chg
 refine zP rfl (zN (zK (zS (zR (zfa rfl (zlB rfl ?_))))))
 refine zP rfl (zN (zK (zS (zS (zR (zfa rfl (zlB rfl ?_)))))))
 refine zN (zK (zB (zS (zS (zR ?_)))))
 refine zEq rfl rfl (fun hc => absurd hc (by decide)) (fun _ => ?_)
 refine zP rfl (zN (zK (zF rfl (zS (zR ?_)))))
 refine zEq rfl rfl (fun hc => absurd hc (by decide)) (fun _ => ?_)
 refine zP rfl (zN (zK (zF rfl (zS (zR ?_)))))
 refine zEq rfl rfl (fun hc => absurd hc (by decide)) (fun _ => ?_)
 refine zP rfl (zN (zK (zF rfl (zS (zR ?_)))))
 refine zEq rfl rfl (fun hc => absurd hc (by decide)) (fun _ => ?_)
 refine zP rfl (zN (zK (zF rfl (zS (zR ?_)))))
 refine zEq rfl rfl (fun hc => absurd hc (by decide)) (fun _ => ?_)
 refine zP rfl (zN (zK (zF rfl (zS (zR ?_)))))
 refine zEq rfl rfl (fun hc => absurd hc (by decide)) (fun _ => ?_)
 refine zP rfl (zN (zK (zF rfl (zR ?_))))
 refine zEq rfl rfl (fun hc => absurd hc (by decide)) (fun _ => ?_)
 refine zP rfl (zN (zK (zF rfl (zS (zS (zR ?_))))))
 refine zEq rfl rfl (fun hc => absurd hc (by decide)) (fun _ => ?_)
 refine zP rfl (zN (zK (zF rfl (zS (zR ?_)))))
 refine zEq rfl rfl (fun hc => absurd hc (by decide)) (fun _ => ?_)
 refine zP rfl (zN (zK (zF rfl (zS (zR ?_)))))
 refine zEq rfl rfl (fun _ => ?_) (fun hc => absurd hc (by decide))
 refine zP rfl (zN (zK (zT rfl (zA (zK (zT rfl (zS (zR (zP rfl ?_)))))))))
 refine zCl rfl (line_calls k hK1 (by omega) hl) ?_
 rintro _ w2 ⟨rfl, hC2⟩
 refine ⟨_, rfl, ?_⟩
 have hb2 := hb1.no hC2
 refine zP rfl (zP rfl (zLn rfl (zCT rfl rfl rfl (zP rfl (zP rfl (zP rfl (zfa rfl (zlB rfl ?_))))))))
 refine zCl rfl (has_calls [101, 109] k.size k rfl (by omega) (hK1.no hC2) hh) ?_
 rintro _ w3 ⟨rfl, hC3⟩
 refine ⟨_, rfl, ?_⟩
 refine zP rfl (zP rfl (zP rfl (zN (zK (zE (zW (zQ ?_)))))))
 exact zk_ret1 (.inr rfl) rfl rfl ⟨rfl, (hX.no hC2).no hC3⟩
theorem kids_img (hA : T.isSl A) (hF : T.isSl F) (hK : T.TreeAt false w K k) (hk : k.wt ≤ big) (hp : k.len = 0) : Calls Tryz.prog 62 [.agg #[.string (bs [105, 109, 103]), A, .string (bs tx), F, K]].toArray w fun e w' => e = .returned (.bool true) ∧ Chg w w' No := by
 have hbig : big = 1000000000000 := rfl
 have hsz := size_wt k
 have hln := k.len_size
 obtain ⟨A1, m1, c1, rfl⟩ := hA
 obtain ⟨A2, m2, c2, rfl⟩ := hF
 obtain ⟨AK, cK, rfl, hcK⟩ := hK.form
 refine zCz 107 Tryz.func62 ?_
 refine zS (zR ?_)
 refine zBx rfl (fun w1 b1 hN1 => ?_)
 have hb1 : Blk w1 b1 43 [.string (bs [105, 109, 103]), .slice A1 m1 c1, .string (bs tx), .slice A2 m2 c2, .slice AK k.len cK] := hN1.blk
 have hK1 := hK.no hN1.chg
 have hX := hN1.chg
 refine zP rfl (zN (zK (zS (zR (zfa rfl (zlB rfl ?_))))))
 refine zP rfl (zN (zK (zS (zS (zR (zfa rfl (zlB rfl ?_)))))))
 refine zN (zK (zB (zS (zS (zR ?_)))))
 refine zEq rfl rfl (fun hc => absurd hc (by decide)) (fun _ => ?_)
 refine zP rfl (zN (zK (zF rfl (zS (zR ?_)))))
 refine zEq rfl rfl (fun hc => absurd hc (by decide)) (fun _ => ?_)
 refine zP rfl (zN (zK (zF rfl (zS (zR ?_)))))
 refine zEq rfl rfl (fun hc => absurd hc (by decide)) (fun _ => ?_)
 refine zP rfl (zN (zK (zF rfl (zS (zR ?_)))))
 refine zEq rfl rfl (fun hc => absurd hc (by decide)) (fun _ => ?_)
 refine zP rfl (zN (zK (zF rfl (zS (zR ?_)))))
 refine zEq rfl rfl (fun hc => absurd hc (by decide)) (fun _ => ?_)
 refine zP rfl (zN (zK (zF rfl (zS (zR ?_)))))
 refine zEq rfl rfl (fun hc => absurd hc (by decide)) (fun _ => ?_)
 refine zP rfl (zN (zK (zF rfl (zR ?_))))
 refine zEq rfl rfl (fun hc => absurd hc (by decide)) (fun _ => ?_)
 refine zP rfl (zN (zK (zF rfl (zS (zS (zR ?_))))))
 refine zEq rfl rfl (fun hc => absurd hc (by decide)) (fun _ => ?_)
 refine zP rfl (zN (zK (zF rfl (zS (zR ?_)))))
 refine zEq rfl rfl (fun hc => absurd hc (by decide)) (fun _ => ?_)
 refine zP rfl (zN (zK (zF rfl (zS (zR ?_)))))
 refine zEq rfl rfl (fun hc => absurd hc (by decide)) (fun _ => ?_)
 refine zP rfl (zN (zK (zF rfl (zS (zR ?_)))))
 refine zEq rfl rfl (fun hc => absurd hc (by decide)) (fun _ => ?_)
 refine zP rfl (zN (zK (zF rfl (zS (zR ?_)))))
 refine zEq rfl rfl (fun hc => absurd hc (by decide)) (fun _ => ?_)
 refine zP rfl (zN (zK (zF rfl (zR ?_))))
 refine zEq rfl rfl (fun hc => absurd hc (by decide)) (fun _ => ?_)
 refine zP rfl (zN (zK (zF rfl (zS (zS (zR ?_))))))
 refine zEq rfl rfl (fun hc => absurd hc (by decide)) (fun _ => ?_)
 refine zP rfl (zN (zK (zF rfl (zS (zR ?_)))))
 refine zEq rfl rfl (fun hc => absurd hc (by decide)) (fun _ => ?_)
 refine zP rfl (zN (zK (zF rfl (zR ?_))))
 refine zEq rfl rfl (fun _ => ?_) (fun hc => absurd hc (by decide))
 refine zP rfl (zN (zK (zT rfl (zS (zR (zP rfl (zLn rfl (zCT rfl rfl rfl (zP rfl (zN (zK (zE (zW (zQ ?_))))))))))))))
 exact zk_ret1 (.inr rfl) rfl rfl ⟨rfl, hX⟩
theorem kids_ul (hA : T.isSl A) (hF : T.isSl F) (hK : T.TreeAt false w K k) (hk : k.wt ≤ big) (ho : T.ofA (T.wordsN [] [108, 105]) k) (hp : 0 < k.len) : Calls Tryz.prog 62 [.agg #[.string (bs [117, 108]), A, .string (bs tx), F, K]].toArray w fun e w' => e = .returned (.bool true) ∧ Chg w w' No := by
 have hbig : big = 1000000000000 := rfl
 have hsz := size_wt k
 have hln := k.len_size
 obtain ⟨A1, m1, c1, rfl⟩ := hA
 obtain ⟨A2, m2, c2, rfl⟩ := hF
 obtain ⟨AK, cK, rfl, hcK⟩ := hK.form
 refine zCz 107 Tryz.func62 ?_
 refine zS (zR ?_)
 refine zBx rfl (fun w1 b1 hN1 => ?_)
 have hb1 : Blk w1 b1 43 [.string (bs [117, 108]), .slice A1 m1 c1, .string (bs tx), .slice A2 m2 c2, .slice AK k.len cK] := hN1.blk
 have hK1 := hK.no hN1.chg
 have hX := hN1.chg
 refine zP rfl (zN (zK (zS (zR (zfa rfl (zlB rfl ?_))))))
 refine zP rfl (zN (zK (zS (zS (zR (zfa rfl (zlB rfl ?_)))))))
 refine zN (zK (zB (zS (zS (zR ?_)))))
 refine zEq rfl rfl (fun hc => absurd hc (by decide)) (fun _ => ?_)
 refine zP rfl (zN (zK (zF rfl (zS (zR ?_)))))
 refine zEq rfl rfl (fun hc => absurd hc (by decide)) (fun _ => ?_)
 refine zP rfl (zN (zK (zF rfl (zS (zR ?_)))))
 refine zEq rfl rfl (fun hc => absurd hc (by decide)) (fun _ => ?_)
 refine zP rfl (zN (zK (zF rfl (zS (zR ?_)))))
 refine zEq rfl rfl (fun hc => absurd hc (by decide)) (fun _ => ?_)
 refine zP rfl (zN (zK (zF rfl (zS (zR ?_)))))
 refine zEq rfl rfl (fun hc => absurd hc (by decide)) (fun _ => ?_)
 refine zP rfl (zN (zK (zF rfl (zS (zR ?_)))))
 refine zEq rfl rfl (fun hc => absurd hc (by decide)) (fun _ => ?_)
 refine zP rfl (zN (zK (zF rfl (zR ?_))))
 refine zEq rfl rfl (fun hc => absurd hc (by decide)) (fun _ => ?_)
 refine zP rfl (zN (zK (zF rfl (zS (zS (zR ?_))))))
 refine zEq rfl rfl (fun hc => absurd hc (by decide)) (fun _ => ?_)
 refine zP rfl (zN (zK (zF rfl (zS (zR ?_)))))
 refine zEq rfl rfl (fun hc => absurd hc (by decide)) (fun _ => ?_)
 refine zP rfl (zN (zK (zF rfl (zS (zR ?_)))))
 refine zEq rfl rfl (fun hc => absurd hc (by decide)) (fun _ => ?_)
 refine zP rfl (zN (zK (zF rfl (zS (zR ?_)))))
 refine zEq rfl rfl (fun hc => absurd hc (by decide)) (fun _ => ?_)
 refine zP rfl (zN (zK (zF rfl (zS (zR ?_)))))
 refine zEq rfl rfl (fun hc => absurd hc (by decide)) (fun _ => ?_)
 refine zP rfl (zN (zK (zF rfl (zR ?_))))
 refine zEq rfl rfl (fun hc => absurd hc (by decide)) (fun _ => ?_)
 refine zP rfl (zN (zK (zF rfl (zS (zS (zR ?_))))))
 refine zEq rfl rfl (fun hc => absurd hc (by decide)) (fun _ => ?_)
 refine zP rfl (zN (zK (zF rfl (zS (zR ?_)))))
 refine zEq rfl rfl (fun hc => absurd hc (by decide)) (fun _ => ?_)
 refine zP rfl (zN (zK (zF rfl (zR ?_))))
 refine zEq rfl rfl (fun hc => absurd hc (by decide)) (fun _ => ?_)
 refine zP rfl (zN (zK (zF rfl (zS (zS (zR ?_))))))
 refine zEq rfl rfl (fun hc => absurd hc (by decide)) (fun _ => ?_)
 refine zP rfl (zN (zK (zF rfl (zR ?_))))
 refine zEq rfl rfl (fun _ => ?_) (fun hc => absurd hc (by decide))
 refine zP rfl (zN (zK (zT rfl (zS (zR (zP rfl ?_))))))
 refine zCl rfl (of_calls k _ (by decide) hK1 (by omega)) ?_
 rintro _ w2 ⟨⟨q, rfl, hq⟩, hC2⟩
 refine ⟨_, rfl, ?_⟩
 obtain rfl : q = true := hq.2 ho
 refine zP rfl (zP rfl (zLn rfl (zCT rfl rfl rfl (zP rfl (zP rfl (zN (zK (zE (zW (zQ ?_))))))))))
 exact zk_ret1 (.inr rfl) rfl rfl ⟨rfl, hX.no hC2⟩
theorem kids_table (hA : T.isSl A) (hF : T.isSl F) (hK : T.TreeAt false w K k) (hk : k.wt ≤ big) (ho : T.ofA (T.wordsN [] [116, 98, 111, 100, 121]) k) (hp : k.len = 1) : Calls Tryz.prog 62 [.agg #[.string (bs [116, 97, 98, 108, 101]), A, .string (bs tx), F, K]].toArray w fun e w' => e = .returned (.bool true) ∧ Chg w w' No := by
 have hbig : big = 1000000000000 := rfl
 have hsz := size_wt k
 have hln := k.len_size
 obtain ⟨A1, m1, c1, rfl⟩ := hA
 obtain ⟨A2, m2, c2, rfl⟩ := hF
 obtain ⟨AK, cK, rfl, hcK⟩ := hK.form
 refine zCz 107 Tryz.func62 ?_
 refine zS (zR ?_)
 refine zBx rfl (fun w1 b1 hN1 => ?_)
 have hb1 : Blk w1 b1 43 [.string (bs [116, 97, 98, 108, 101]), .slice A1 m1 c1, .string (bs tx), .slice A2 m2 c2, .slice AK k.len cK] := hN1.blk
 have hK1 := hK.no hN1.chg
 have hX := hN1.chg
 refine zP rfl (zN (zK (zS (zR (zfa rfl (zlB rfl ?_))))))
 refine zP rfl (zN (zK (zS (zS (zR (zfa rfl (zlB rfl ?_)))))))
 refine zN (zK (zB (zS (zS (zR ?_)))))
 refine zEq rfl rfl (fun hc => absurd hc (by decide)) (fun _ => ?_)
 refine zP rfl (zN (zK (zF rfl (zS (zR ?_)))))
 refine zEq rfl rfl (fun hc => absurd hc (by decide)) (fun _ => ?_)
 refine zP rfl (zN (zK (zF rfl (zS (zR ?_)))))
 refine zEq rfl rfl (fun hc => absurd hc (by decide)) (fun _ => ?_)
 refine zP rfl (zN (zK (zF rfl (zS (zR ?_)))))
 refine zEq rfl rfl (fun hc => absurd hc (by decide)) (fun _ => ?_)
 refine zP rfl (zN (zK (zF rfl (zS (zR ?_)))))
 refine zEq rfl rfl (fun hc => absurd hc (by decide)) (fun _ => ?_)
 refine zP rfl (zN (zK (zF rfl (zS (zR ?_)))))
 refine zEq rfl rfl (fun hc => absurd hc (by decide)) (fun _ => ?_)
 refine zP rfl (zN (zK (zF rfl (zR ?_))))
 refine zEq rfl rfl (fun hc => absurd hc (by decide)) (fun _ => ?_)
 refine zP rfl (zN (zK (zF rfl (zS (zS (zR ?_))))))
 refine zEq rfl rfl (fun hc => absurd hc (by decide)) (fun _ => ?_)
 refine zP rfl (zN (zK (zF rfl (zS (zR ?_)))))
 refine zEq rfl rfl (fun hc => absurd hc (by decide)) (fun _ => ?_)
 refine zP rfl (zN (zK (zF rfl (zS (zR ?_)))))
 refine zEq rfl rfl (fun hc => absurd hc (by decide)) (fun _ => ?_)
 refine zP rfl (zN (zK (zF rfl (zS (zR ?_)))))
 refine zEq rfl rfl (fun hc => absurd hc (by decide)) (fun _ => ?_)
 refine zP rfl (zN (zK (zF rfl (zS (zR ?_)))))
 refine zEq rfl rfl (fun hc => absurd hc (by decide)) (fun _ => ?_)
 refine zP rfl (zN (zK (zF rfl (zR ?_))))
 refine zEq rfl rfl (fun hc => absurd hc (by decide)) (fun _ => ?_)
 refine zP rfl (zN (zK (zF rfl (zS (zS (zR ?_))))))
 refine zEq rfl rfl (fun hc => absurd hc (by decide)) (fun _ => ?_)
 refine zP rfl (zN (zK (zF rfl (zS (zR ?_)))))
 refine zEq rfl rfl (fun hc => absurd hc (by decide)) (fun _ => ?_)
 refine zP rfl (zN (zK (zF rfl (zR ?_))))
 refine zEq rfl rfl (fun hc => absurd hc (by decide)) (fun _ => ?_)
 refine zP rfl (zN (zK (zF rfl (zS (zS (zR ?_))))))
 refine zEq rfl rfl (fun hc => absurd hc (by decide)) (fun _ => ?_)
 refine zP rfl (zN (zK (zF rfl (zR ?_))))
 refine zEq rfl rfl (fun hc => absurd hc (by decide)) (fun _ => ?_)
 refine zP rfl (zN (zK (zF rfl (zS (zR ?_)))))
 refine zEq rfl rfl (fun hc => absurd hc (by decide)) (fun _ => ?_)
 refine zP rfl (zN (zK (zF rfl (zS (zR ?_)))))
 refine zEq rfl rfl (fun _ => ?_) (fun hc => absurd hc (by decide))
 refine zP rfl (zN (zK (zT rfl (zS (zR (zP rfl ?_))))))
 refine zCl rfl (of_calls k _ (by decide) hK1 (by omega)) ?_
 rintro _ w2 ⟨⟨q, rfl, hq⟩, hC2⟩
 refine ⟨_, rfl, ?_⟩
 obtain rfl : q = true := hq.2 ho
 refine zP rfl (zP rfl (zLn rfl (zCT rfl rfl rfl (zP rfl (zP rfl (zN (zK (zE (zW (zQ ?_))))))))))
 exact zk_ret1 (.inr rfl) rfl rfl ⟨rfl, hX.no hC2⟩
theorem kids_tbody (hA : T.isSl A) (hF : T.isSl F) (hK : T.TreeAt false w K k) (hk : k.wt ≤ big) (ho : T.ofA (T.wordsN [] [116, 114]) k) (hp : 0 < k.len) : Calls Tryz.prog 62 [.agg #[.string (bs [116, 98, 111, 100, 121]), A, .string (bs tx), F, K]].toArray w fun e w' => e = .returned (.bool true) ∧ Chg w w' No := by
 have hbig : big = 1000000000000 := rfl
 have hsz := size_wt k
 have hln := k.len_size
 obtain ⟨A1, m1, c1, rfl⟩ := hA
 obtain ⟨A2, m2, c2, rfl⟩ := hF
 obtain ⟨AK, cK, rfl, hcK⟩ := hK.form
 refine zCz 107 Tryz.func62 ?_
 refine zS (zR ?_)
 refine zBx rfl (fun w1 b1 hN1 => ?_)
 have hb1 : Blk w1 b1 43 [.string (bs [116, 98, 111, 100, 121]), .slice A1 m1 c1, .string (bs tx), .slice A2 m2 c2, .slice AK k.len cK] := hN1.blk
 have hK1 := hK.no hN1.chg
 have hX := hN1.chg
 refine zP rfl (zN (zK (zS (zR (zfa rfl (zlB rfl ?_))))))
 refine zP rfl (zN (zK (zS (zS (zR (zfa rfl (zlB rfl ?_)))))))
 refine zN (zK (zB (zS (zS (zR ?_)))))
 refine zEq rfl rfl (fun hc => absurd hc (by decide)) (fun _ => ?_)
 refine zP rfl (zN (zK (zF rfl (zS (zR ?_)))))
 refine zEq rfl rfl (fun hc => absurd hc (by decide)) (fun _ => ?_)
 refine zP rfl (zN (zK (zF rfl (zS (zR ?_)))))
 refine zEq rfl rfl (fun hc => absurd hc (by decide)) (fun _ => ?_)
 refine zP rfl (zN (zK (zF rfl (zS (zR ?_)))))
 refine zEq rfl rfl (fun hc => absurd hc (by decide)) (fun _ => ?_)
 refine zP rfl (zN (zK (zF rfl (zS (zR ?_)))))
 refine zEq rfl rfl (fun hc => absurd hc (by decide)) (fun _ => ?_)
 refine zP rfl (zN (zK (zF rfl (zS (zR ?_)))))
 refine zEq rfl rfl (fun hc => absurd hc (by decide)) (fun _ => ?_)
 refine zP rfl (zN (zK (zF rfl (zR ?_))))
 refine zEq rfl rfl (fun hc => absurd hc (by decide)) (fun _ => ?_)
 refine zP rfl (zN (zK (zF rfl (zS (zS (zR ?_))))))
 refine zEq rfl rfl (fun hc => absurd hc (by decide)) (fun _ => ?_)
 refine zP rfl (zN (zK (zF rfl (zS (zR ?_)))))
 refine zEq rfl rfl (fun hc => absurd hc (by decide)) (fun _ => ?_)
 refine zP rfl (zN (zK (zF rfl (zS (zR ?_)))))
 refine zEq rfl rfl (fun hc => absurd hc (by decide)) (fun _ => ?_)
 refine zP rfl (zN (zK (zF rfl (zS (zR ?_)))))
 refine zEq rfl rfl (fun hc => absurd hc (by decide)) (fun _ => ?_)
 refine zP rfl (zN (zK (zF rfl (zS (zR ?_)))))
 refine zEq rfl rfl (fun hc => absurd hc (by decide)) (fun _ => ?_)
 refine zP rfl (zN (zK (zF rfl (zR ?_))))
 refine zEq rfl rfl (fun hc => absurd hc (by decide)) (fun _ => ?_)
 refine zP rfl (zN (zK (zF rfl (zS (zS (zR ?_))))))
 refine zEq rfl rfl (fun hc => absurd hc (by decide)) (fun _ => ?_)
 refine zP rfl (zN (zK (zF rfl (zS (zR ?_)))))
 refine zEq rfl rfl (fun hc => absurd hc (by decide)) (fun _ => ?_)
 refine zP rfl (zN (zK (zF rfl (zR ?_))))
 refine zEq rfl rfl (fun hc => absurd hc (by decide)) (fun _ => ?_)
 refine zP rfl (zN (zK (zF rfl (zS (zS (zR ?_))))))
 refine zEq rfl rfl (fun hc => absurd hc (by decide)) (fun _ => ?_)
 refine zP rfl (zN (zK (zF rfl (zR ?_))))
 refine zEq rfl rfl (fun hc => absurd hc (by decide)) (fun _ => ?_)
 refine zP rfl (zN (zK (zF rfl (zS (zR ?_)))))
 refine zEq rfl rfl (fun hc => absurd hc (by decide)) (fun _ => ?_)
 refine zP rfl (zN (zK (zF rfl (zS (zR ?_)))))
 refine zEq rfl rfl (fun hc => absurd hc (by decide)) (fun _ => ?_)
 refine zP rfl (zN (zK (zF rfl (zS (zR ?_)))))
 refine zEq rfl rfl (fun _ => ?_) (fun hc => absurd hc (by decide))
 refine zP rfl (zN (zK (zT rfl (zS (zR (zP rfl ?_))))))
 refine zCl rfl (of_calls k _ (by decide) hK1 (by omega)) ?_
 rintro _ w2 ⟨⟨q, rfl, hq⟩, hC2⟩
 refine ⟨_, rfl, ?_⟩
 obtain rfl : q = true := hq.2 ho
 refine zP rfl (zP rfl (zLn rfl (zCT rfl rfl rfl (zP rfl (zP rfl (zN (zK (zE (zW (zQ ?_))))))))))
 exact zk_ret1 (.inr rfl) rfl rfl ⟨rfl, hX.no hC2⟩
theorem kids_tr (hA : T.isSl A) (hF : T.isSl F) (hK : T.TreeAt false w K k) (hk : k.wt ≤ big) (ho : T.ofA (T.wordsN [] [116, 100, 32, 116, 104]) k) (hp : 0 < k.len) : Calls Tryz.prog 62 [.agg #[.string (bs [116, 114]), A, .string (bs tx), F, K]].toArray w fun e w' => e = .returned (.bool true) ∧ Chg w w' No := by
 have hbig : big = 1000000000000 := rfl
 have hsz := size_wt k
 have hln := k.len_size
 obtain ⟨A1, m1, c1, rfl⟩ := hA
 obtain ⟨A2, m2, c2, rfl⟩ := hF
 obtain ⟨AK, cK, rfl, hcK⟩ := hK.form
 refine zCz 107 Tryz.func62 ?_
 refine zS (zR ?_)
 refine zBx rfl (fun w1 b1 hN1 => ?_)
 have hb1 : Blk w1 b1 43 [.string (bs [116, 114]), .slice A1 m1 c1, .string (bs tx), .slice A2 m2 c2, .slice AK k.len cK] := hN1.blk
 have hK1 := hK.no hN1.chg
 have hX := hN1.chg
 refine zP rfl (zN (zK (zS (zR (zfa rfl (zlB rfl ?_))))))
 refine zP rfl (zN (zK (zS (zS (zR (zfa rfl (zlB rfl ?_)))))))
 refine zN (zK (zB (zS (zS (zR ?_)))))
 refine zEq rfl rfl (fun hc => absurd hc (by decide)) (fun _ => ?_)
 refine zP rfl (zN (zK (zF rfl (zS (zR ?_)))))
 refine zEq rfl rfl (fun hc => absurd hc (by decide)) (fun _ => ?_)
 refine zP rfl (zN (zK (zF rfl (zS (zR ?_)))))
 refine zEq rfl rfl (fun hc => absurd hc (by decide)) (fun _ => ?_)
 refine zP rfl (zN (zK (zF rfl (zS (zR ?_)))))
 refine zEq rfl rfl (fun hc => absurd hc (by decide)) (fun _ => ?_)
 refine zP rfl (zN (zK (zF rfl (zS (zR ?_)))))
 refine zEq rfl rfl (fun hc => absurd hc (by decide)) (fun _ => ?_)
 refine zP rfl (zN (zK (zF rfl (zS (zR ?_)))))
 refine zEq rfl rfl (fun hc => absurd hc (by decide)) (fun _ => ?_)
 refine zP rfl (zN (zK (zF rfl (zR ?_))))
 refine zEq rfl rfl (fun hc => absurd hc (by decide)) (fun _ => ?_)
 refine zP rfl (zN (zK (zF rfl (zS (zS (zR ?_))))))
 refine zEq rfl rfl (fun hc => absurd hc (by decide)) (fun _ => ?_)
 refine zP rfl (zN (zK (zF rfl (zS (zR ?_)))))
 refine zEq rfl rfl (fun hc => absurd hc (by decide)) (fun _ => ?_)
 refine zP rfl (zN (zK (zF rfl (zS (zR ?_)))))
 refine zEq rfl rfl (fun hc => absurd hc (by decide)) (fun _ => ?_)
 refine zP rfl (zN (zK (zF rfl (zS (zR ?_)))))
 refine zEq rfl rfl (fun hc => absurd hc (by decide)) (fun _ => ?_)
 refine zP rfl (zN (zK (zF rfl (zS (zR ?_)))))
 refine zEq rfl rfl (fun hc => absurd hc (by decide)) (fun _ => ?_)
 refine zP rfl (zN (zK (zF rfl (zR ?_))))
 refine zEq rfl rfl (fun hc => absurd hc (by decide)) (fun _ => ?_)
 refine zP rfl (zN (zK (zF rfl (zS (zS (zR ?_))))))
 refine zEq rfl rfl (fun hc => absurd hc (by decide)) (fun _ => ?_)
 refine zP rfl (zN (zK (zF rfl (zS (zR ?_)))))
 refine zEq rfl rfl (fun hc => absurd hc (by decide)) (fun _ => ?_)
 refine zP rfl (zN (zK (zF rfl (zR ?_))))
 refine zEq rfl rfl (fun hc => absurd hc (by decide)) (fun _ => ?_)
 refine zP rfl (zN (zK (zF rfl (zS (zS (zR ?_))))))
 refine zEq rfl rfl (fun hc => absurd hc (by decide)) (fun _ => ?_)
 refine zP rfl (zN (zK (zF rfl (zR ?_))))
 refine zEq rfl rfl (fun hc => absurd hc (by decide)) (fun _ => ?_)
 refine zP rfl (zN (zK (zF rfl (zS (zR ?_)))))
 refine zEq rfl rfl (fun hc => absurd hc (by decide)) (fun _ => ?_)
 refine zP rfl (zN (zK (zF rfl (zS (zR ?_)))))
 refine zEq rfl rfl (fun hc => absurd hc (by decide)) (fun _ => ?_)
 refine zP rfl (zN (zK (zF rfl (zS (zR ?_)))))
 refine zEq rfl rfl (fun hc => absurd hc (by decide)) (fun _ => ?_)
 refine zP rfl (zN (zK (zF rfl (zS (zR ?_)))))
 refine zEq rfl rfl (fun _ => ?_) (fun hc => absurd hc (by decide))
 refine zP rfl (zN (zK (zT rfl (zS (zR (zP rfl ?_))))))
 refine zCl rfl (of_calls k _ (by decide) hK1 (by omega)) ?_
 rintro _ w2 ⟨⟨q, rfl, hq⟩, hC2⟩
 refine ⟨_, rfl, ?_⟩
 obtain rfl : q = true := hq.2 ho
 refine zP rfl (zP rfl (zLn rfl (zCT rfl rfl rfl (zP rfl (zP rfl (zN (zK (zE (zW (zQ ?_))))))))))
 exact zk_ret1 (.inr rfl) rfl rfl ⟨rfl, hX.no hC2⟩
theorem kids_li (hA : T.isSl A) (hF : T.isSl F) (hK : T.TreeAt false w K k) (hk : k.wt ≤ big) (hl : T.lineA k) : Calls Tryz.prog 62 [.agg #[.string (bs [108, 105]), A, .string (bs tx), F, K]].toArray w fun e w' => e = .returned (.bool true) ∧ Chg w w' No := by
 have hbig : big = 1000000000000 := rfl
 have hsz := size_wt k
 have hln := k.len_size
 obtain ⟨A1, m1, c1, rfl⟩ := hA
 obtain ⟨A2, m2, c2, rfl⟩ := hF
 obtain ⟨AK, cK, rfl, hcK⟩ := hK.form
 refine zCz 107 Tryz.func62 ?_
 refine zS (zR ?_)
 refine zBx rfl (fun w1 b1 hN1 => ?_)
 have hb1 : Blk w1 b1 43 [.string (bs [108, 105]), .slice A1 m1 c1, .string (bs tx), .slice A2 m2 c2, .slice AK k.len cK] := hN1.blk
 have hK1 := hK.no hN1.chg
 have hX := hN1.chg
 refine zP rfl (zN (zK (zS (zR (zfa rfl (zlB rfl ?_))))))
 refine zP rfl (zN (zK (zS (zS (zR (zfa rfl (zlB rfl ?_)))))))
 refine zN (zK (zB (zS (zS (zR ?_)))))
 refine zEq rfl rfl (fun hc => absurd hc (by decide)) (fun _ => ?_)
 refine zP rfl (zN (zK (zF rfl (zS (zR ?_)))))
 refine zEq rfl rfl (fun hc => absurd hc (by decide)) (fun _ => ?_)
 refine zP rfl (zN (zK (zF rfl (zS (zR ?_)))))
 refine zEq rfl rfl (fun hc => absurd hc (by decide)) (fun _ => ?_)
 refine zP rfl (zN (zK (zF rfl (zS (zR ?_)))))
 refine zEq rfl rfl (fun hc => absurd hc (by decide)) (fun _ => ?_)
 refine zP rfl (zN (zK (zF rfl (zS (zR ?_)))))
 refine zEq rfl rfl (fun hc => absurd hc (by decide)) (fun _ => ?_)
 refine zP rfl (zN (zK (zF rfl (zS (zR ?_)))))
 refine zEq rfl rfl (fun hc => absurd hc (by decide)) (fun _ => ?_)
 refine zP rfl (zN (zK (zF rfl (zR ?_))))
 refine zEq rfl rfl (fun hc => absurd hc (by decide)) (fun _ => ?_)
 refine zP rfl (zN (zK (zF rfl (zS (zS (zR ?_))))))
 refine zEq rfl rfl (fun hc => absurd hc (by decide)) (fun _ => ?_)
 refine zP rfl (zN (zK (zF rfl (zS (zR ?_)))))
 refine zEq rfl rfl (fun hc => absurd hc (by decide)) (fun _ => ?_)
 refine zP rfl (zN (zK (zF rfl (zS (zR ?_)))))
 refine zEq rfl rfl (fun hc => absurd hc (by decide)) (fun _ => ?_)
 refine zP rfl (zN (zK (zF rfl (zS (zR ?_)))))
 refine zEq rfl rfl (fun hc => absurd hc (by decide)) (fun _ => ?_)
 refine zP rfl (zN (zK (zF rfl (zS (zR ?_)))))
 refine zEq rfl rfl (fun hc => absurd hc (by decide)) (fun _ => ?_)
 refine zP rfl (zN (zK (zF rfl (zR ?_))))
 refine zEq rfl rfl (fun hc => absurd hc (by decide)) (fun _ => ?_)
 refine zP rfl (zN (zK (zF rfl (zS (zS (zR ?_))))))
 refine zEq rfl rfl (fun hc => absurd hc (by decide)) (fun _ => ?_)
 refine zP rfl (zN (zK (zF rfl (zS (zR ?_)))))
 refine zEq rfl rfl (fun hc => absurd hc (by decide)) (fun _ => ?_)
 refine zP rfl (zN (zK (zF rfl (zR ?_))))
 refine zEq rfl rfl (fun hc => absurd hc (by decide)) (fun _ => ?_)
 refine zP rfl (zN (zK (zF rfl (zS (zS (zR ?_))))))
 refine zEq rfl rfl (fun hc => absurd hc (by decide)) (fun _ => ?_)
 refine zP rfl (zN (zK (zF rfl (zR ?_))))
 refine zEq rfl rfl (fun hc => absurd hc (by decide)) (fun _ => ?_)
 refine zP rfl (zN (zK (zF rfl (zS (zR ?_)))))
 refine zEq rfl rfl (fun hc => absurd hc (by decide)) (fun _ => ?_)
 refine zP rfl (zN (zK (zF rfl (zS (zR ?_)))))
 refine zEq rfl rfl (fun hc => absurd hc (by decide)) (fun _ => ?_)
 refine zP rfl (zN (zK (zF rfl (zS (zR ?_)))))
 refine zEq rfl rfl (fun hc => absurd hc (by decide)) (fun _ => ?_)
 refine zP rfl (zN (zK (zF rfl (zS (zR ?_)))))
 refine zEq rfl rfl (fun hc => absurd hc (by decide)) (fun _ => ?_)
 refine zP rfl (zN (zK (zF rfl (zS (zS (zR ?_))))))
 refine zEq rfl rfl (fun _ => ?_) (fun hc => absurd hc (by decide))
 refine zP rfl (zN (zK (zT rfl (zA (zK (zT rfl (zS (zR (zP rfl ?_)))))))))
 refine zCl rfl (of_calls k _ (by decide) hK1 (by omega)) ?_
 rintro _ w2 ⟨⟨q, rfl, hq⟩, hC2⟩
 refine ⟨_, rfl, ?_⟩
 cases q
 ·refine zP rfl (zP rfl ?_)
  refine zCl rfl (line_calls k (hK1.no hC2) (by omega) hl) ?_
  rintro _ w3 ⟨rfl, hC3⟩
  refine ⟨_, rfl, ?_⟩
  refine zP rfl (zP rfl (zN (zK (zE (zW (zQ ?_))))))
  exact zk_ret1 (.inr rfl) rfl rfl ⟨rfl, (hX.no hC2).no hC3⟩
 ·refine zP rfl (zP rfl (zJ rfl (zP rfl (zP rfl (zN (zK (zE (zW (zQ ?_)))))))))
  exact zk_ret1 (.inr rfl) rfl rfl ⟨rfl, hX.no hC2⟩
theorem kids_th (hA : T.isSl A) (hF : T.isSl F) (hK : T.TreeAt false w K k) (hk : k.wt ≤ big) (hl : T.lineA k) : Calls Tryz.prog 62 [.agg #[.string (bs [116, 104]), A, .string (bs tx), F, K]].toArray w fun e w' => e = .returned (.bool true) ∧ Chg w w' No := by
 have hbig : big = 1000000000000 := rfl
 have hsz := size_wt k
 have hln := k.len_size
 obtain ⟨A1, m1, c1, rfl⟩ := hA
 obtain ⟨A2, m2, c2, rfl⟩ := hF
 obtain ⟨AK, cK, rfl, hcK⟩ := hK.form
 refine zCz 107 Tryz.func62 ?_
 refine zS (zR ?_)
 refine zBx rfl (fun w1 b1 hN1 => ?_)
 have hb1 : Blk w1 b1 43 [.string (bs [116, 104]), .slice A1 m1 c1, .string (bs tx), .slice A2 m2 c2, .slice AK k.len cK] := hN1.blk
 have hK1 := hK.no hN1.chg
 have hX := hN1.chg
 refine zP rfl (zN (zK (zS (zR (zfa rfl (zlB rfl ?_))))))
 refine zP rfl (zN (zK (zS (zS (zR (zfa rfl (zlB rfl ?_)))))))
 refine zN (zK (zB (zS (zS (zR ?_)))))
 refine zEq rfl rfl (fun hc => absurd hc (by decide)) (fun _ => ?_)
 refine zP rfl (zN (zK (zF rfl (zS (zR ?_)))))
 refine zEq rfl rfl (fun hc => absurd hc (by decide)) (fun _ => ?_)
 refine zP rfl (zN (zK (zF rfl (zS (zR ?_)))))
 refine zEq rfl rfl (fun hc => absurd hc (by decide)) (fun _ => ?_)
 refine zP rfl (zN (zK (zF rfl (zS (zR ?_)))))
 refine zEq rfl rfl (fun hc => absurd hc (by decide)) (fun _ => ?_)
 refine zP rfl (zN (zK (zF rfl (zS (zR ?_)))))
 refine zEq rfl rfl (fun hc => absurd hc (by decide)) (fun _ => ?_)
 refine zP rfl (zN (zK (zF rfl (zS (zR ?_)))))
 refine zEq rfl rfl (fun hc => absurd hc (by decide)) (fun _ => ?_)
 refine zP rfl (zN (zK (zF rfl (zR ?_))))
 refine zEq rfl rfl (fun hc => absurd hc (by decide)) (fun _ => ?_)
 refine zP rfl (zN (zK (zF rfl (zS (zS (zR ?_))))))
 refine zEq rfl rfl (fun hc => absurd hc (by decide)) (fun _ => ?_)
 refine zP rfl (zN (zK (zF rfl (zS (zR ?_)))))
 refine zEq rfl rfl (fun hc => absurd hc (by decide)) (fun _ => ?_)
 refine zP rfl (zN (zK (zF rfl (zS (zR ?_)))))
 refine zEq rfl rfl (fun hc => absurd hc (by decide)) (fun _ => ?_)
 refine zP rfl (zN (zK (zF rfl (zS (zR ?_)))))
 refine zEq rfl rfl (fun hc => absurd hc (by decide)) (fun _ => ?_)
 refine zP rfl (zN (zK (zF rfl (zS (zR ?_)))))
 refine zEq rfl rfl (fun hc => absurd hc (by decide)) (fun _ => ?_)
 refine zP rfl (zN (zK (zF rfl (zR ?_))))
 refine zEq rfl rfl (fun hc => absurd hc (by decide)) (fun _ => ?_)
 refine zP rfl (zN (zK (zF rfl (zS (zS (zR ?_))))))
 refine zEq rfl rfl (fun hc => absurd hc (by decide)) (fun _ => ?_)
 refine zP rfl (zN (zK (zF rfl (zS (zR ?_)))))
 refine zEq rfl rfl (fun hc => absurd hc (by decide)) (fun _ => ?_)
 refine zP rfl (zN (zK (zF rfl (zR ?_))))
 refine zEq rfl rfl (fun hc => absurd hc (by decide)) (fun _ => ?_)
 refine zP rfl (zN (zK (zF rfl (zS (zS (zR ?_))))))
 refine zEq rfl rfl (fun hc => absurd hc (by decide)) (fun _ => ?_)
 refine zP rfl (zN (zK (zF rfl (zR ?_))))
 refine zEq rfl rfl (fun hc => absurd hc (by decide)) (fun _ => ?_)
 refine zP rfl (zN (zK (zF rfl (zS (zR ?_)))))
 refine zEq rfl rfl (fun hc => absurd hc (by decide)) (fun _ => ?_)
 refine zP rfl (zN (zK (zF rfl (zS (zR ?_)))))
 refine zEq rfl rfl (fun hc => absurd hc (by decide)) (fun _ => ?_)
 refine zP rfl (zN (zK (zF rfl (zS (zR ?_)))))
 refine zEq rfl rfl (fun hc => absurd hc (by decide)) (fun _ => ?_)
 refine zP rfl (zN (zK (zF rfl (zS (zR ?_)))))
 refine zEq rfl rfl (fun hc => absurd hc (by decide)) (fun _ => ?_)
 refine zP rfl (zN (zK (zF rfl (zS (zS (zR ?_))))))
 refine zEq rfl rfl (fun hc => absurd hc (by decide)) (fun _ => ?_)
 refine zP rfl (zN (zK (zF rfl (zS (zR ?_)))))
 refine zEq rfl rfl (fun hc => absurd hc (by decide)) (fun _ => ?_)
 refine zP rfl (zN (zK (zF rfl (zR ?_))))
 refine zEq rfl rfl (fun _ => ?_) (fun hc => absurd hc (by decide))
 refine zP rfl (zN (zK (zT rfl (zS (zR (zP rfl ?_))))))
 refine zCl rfl (of_calls k _ (by decide) hK1 (by omega)) ?_
 rintro _ w2 ⟨⟨q, rfl, hq⟩, hC2⟩
 refine ⟨_, rfl, ?_⟩
 cases q
 ·refine zP rfl (zP rfl ?_)
  refine zCl rfl (line_calls k (hK1.no hC2) (by omega) hl) ?_
  rintro _ w3 ⟨rfl, hC3⟩
  refine ⟨_, rfl, ?_⟩
  refine zP rfl (zP rfl (zN (zK (zE (zW (zQ ?_))))))
  exact zk_ret1 (.inr rfl) rfl rfl ⟨rfl, (hX.no hC2).no hC3⟩
 ·refine zP rfl (zP rfl (zJ rfl (zP rfl (zP rfl (zN (zK (zE (zW (zQ ?_)))))))))
  exact zk_ret1 (.inr rfl) rfl rfl ⟨rfl, hX.no hC2⟩
theorem kids_calls {nm : List UInt8} (hA : T.isSl A) (hF : T.isSl F) (hK : T.TreeAt false w K k) (hk : k.wt ≤ big) (hT : KidT nm k) : Calls Tryz.prog 62 [.agg #[.string (bs nm), A, .string (bs tx), F, K]].toArray w fun e w' => e = .returned (.bool true) ∧ Chg w w' No := by
 rcases hT with ⟨hn, h1, h2⟩ | ⟨rfl, h1, h2, h3⟩ | ⟨rfl, rfl⟩ | ⟨rfl, h1, h2⟩ | ⟨rfl, h1, h2⟩ | ⟨rfl, h1, h2⟩ | ⟨rfl, h1, h2⟩ | ⟨hn, h1⟩
 ·simp only [List.mem_cons, List.not_mem_nil, or_false] at hn
  rcases hn with rfl | rfl | rfl
  ·exact kids_h2 hA hF hK hk h1 h2
  ·exact kids_p hA hF hK hk h1 h2
  ·exact kids_pre hA hF hK hk h1 h2
 ·exact kids_em hA hF hK hk h1 h2 h3
 ·exact kids_img hA hF hK hk rfl
 ·exact kids_ul hA hF hK hk h1 h2
 ·exact kids_table hA hF hK hk h1 h2
 ·exact kids_tbody hA hF hK hk h1 h2
 ·exact kids_tr hA hF hK hk h1 h2
 ·simp only [List.mem_cons, List.not_mem_nil, or_false] at hn
  rcases hn with rfl | rfl
  ·exact kids_li hA hF hK hk h1
  ·exact kids_th hA hF hK hk h1
end
open T (big AT)
section
variable {w : World} {A F K : Value} {nm tx : List UInt8} {k : AT}
theorem titled_calls {x1 x2 x3 : T.Hd} {q : AT} (hA : T.isSl A) (hF : T.isSl F) (hK : T.TreeAt false w K (.cons x1 (.cons x2 (.cons x3 q .nil) .nil) .nil)) (h3 : x3.name = [116, 104]) :
  Calls Tryz.prog 67 [.agg #[.string (bs nm), A, .string (bs tx), F, K]].toArray w fun e w' => e = .returned (.bool true) ∧ Chg w w' No := by
 obtain ⟨A1, m1, c1, rfl⟩ := hA
 obtain ⟨A2, m2, c2, rfl⟩ := hF
 obtain ⟨AK, cK, rfl, hcK⟩ := hK.form
 refine zCz 48 Tryz.func67 ?_
 refine zS (zR ?_)
 refine zBx rfl (fun w1 b1 hN1 => ?_)
 have hK1 := hK.no hN1.chg
 obtain ⟨b, o, c, x, k1, r1, A3, F3, K3, e1, hv, hN, _, _, hK2⟩ := hK1.at_ 0 (by simp [AT.len])
 cases hv
 simp only [AT.dropN, AT.cons.injEq] at e1
 obtain ⟨rfl, rfl, rfl⟩ := e1
 obtain ⟨b', o', c', x, k2, r2, A4, F4, K4, e2, rfl, hN2, hA4, hF4, hK3⟩ := hK2.at_ 0 (by simp [AT.len])
 simp only [AT.dropN, AT.cons.injEq] at e2
 obtain ⟨rfl, rfl, rfl⟩ := e2
 obtain ⟨b'', o'', c'', x, k3, r3, A5, F5, K5, e3, rfl, hN3, _, _, _⟩ := hK3.at_ 0 (by simp [AT.len])
 simp only [AT.dropN, AT.cons.injEq] at e3
 obtain ⟨rfl, rfl, rfl⟩ := e3
 have hb1 : Blk w1 b1 43 [.string (bs nm), .slice A1 m1 c1, .string (bs tx), .slice A2 m2 c2, .slice (some ⟨b, o, none⟩) 1 cK] := hN1.blk
 have q4 : w1.cell? ⟨b, o + 0 * 5 + 4, none⟩ = some (.slice (some ⟨b', o', none⟩) 1 c') := hN.c4
 have r4 : w1.cell? ⟨b', o' + 0 * 5 + 4, none⟩ = some (.slice (some ⟨b'', o'', none⟩) 1 c'') := hN2.c4
 have s0 : w1.cell? ⟨b'', o'' + 0 * 5, none⟩ = some (.string (bs [116, 104])) := h3 ▸ hN3.c0
 obtain ⟨A6, m6, c6, rfl⟩ := hF4
 obtain ⟨A7, c7, rfl, _⟩ := hA4.form
 refine zP rfl (zN (zK (zS (zS (zR (zP rfl (zN (zK (zB ?_)))))))))
 refine zc_loopW (ι := Unit) (fun _ u => [(1, .pointer (some ⟨b1, 0, none⟩)), (3, .int .i64 ((0 : Nat) : Int))]) (fun _ u => u = w1) (fun _ u => 0) () rfl ⟨rfl, rfl, trivial⟩ ?_
 rintro _ u hu
 obtain rfl := hu.symm
 refine zS (zS (zR (zP rfl (zfa rfl (zlB rfl ?_)))))
 refine zLn rfl (zCT rfl rfl rfl (zN (zK (zT rfl (zA (zK (zS (zB (zS (zR (zP rfl (zN (zK (zB ?_))))))))))))))
 refine zc_loopW (ι := Unit) (fun _ u => [(1, .pointer (some ⟨b1, 0, none⟩)), (3, .int .i64 ((0 : Nat) : Int)), (4, .int .i64 ((0 : Nat) : Int))]) (fun _ u => u = w1) (fun _ u => 0) () rfl ⟨rfl, rfl, rfl, trivial⟩ ?_
 rintro _ u hu
 obtain rfl := hu.symm
 refine zS (zS (zR (zP rfl (zfa rfl (zlB rfl ?_)))))
 refine zP rfl (zIa rfl rfl (zfa rfl (zL1 rfl (by assumption) ?_)))
 refine zLn rfl (zCT rfl rfl rfl (zN (zK (zT rfl (zA (zK (zS (zB (zS (zR (zfa rfl (zlB rfl ?_))))))))))))
 refine zP rfl (zIa rfl rfl (zfa rfl (zL1 rfl (by assumption) ?_)))
 refine zP rfl (zIa rfl rfl ?_)
 refine z_loadA (by rfl) (want_L rfl) (by decide) rfl (hN2.agg (by omega)) ?_
 refine zAl (fun w2 b5 hN5 => ?_)
 have hb5 : Blk w2 b5 43 [.string ⟨#[]⟩, T.nS, .string ⟨#[]⟩, T.nS, T.nS] := hN5.blk
 refine z_store (want_L rfl) rfl rfl rfl (by assumption) (by first | exact Nat.le_refl _ | simp [Value.cells]) (by simp [Value.cells, Value.oneCell']) (fun w3 hU5 => ?_)
 have hb6 : Blk w3 b5 43 [.string (bs x2.name), .slice A7 x2.attrs.length c7, .string (bs x2.text), .slice A6 m6 c6, .slice (some ⟨b'', o'', none⟩) 1 c''] := hU5.blk
 have hX2 : Chg w1 w3 No := hN5.chg.upd hU5 (hN5.ge (Chg.refl _ No))
 have s1 := cell_keep hX2 s0
 have hb2 := hb1.no hX2
 refine zN (zK (zS (zR (zP rfl (zN (zK (zB ?_)))))))
 refine zc_loopW (ι := Unit) (fun _ u => [(5, .pointer (some ⟨b5, 0, none⟩)), (6, .int .i64 ((0 : Nat) : Int))]) (fun _ u => u = w3) (fun _ u => 0) () rfl ⟨rfl, rfl, trivial⟩ ?_
 rintro _ u hu
 obtain rfl := hu.symm
 refine zS (zS (zR (zP rfl (zfa rfl (zlB rfl ?_)))))
 refine zLn rfl (zCT rfl rfl rfl (zN (zK (zT rfl (zA (zK (zS (zB (zS (zR (zfa rfl (zlB rfl ?_))))))))))))
 refine zP rfl (zIa rfl rfl (zfa rfl (zL1 rfl (by assumption) ?_)))
 refine zEq rfl rfl (fun _ => ?_) (fun hc => absurd hc (by decide))
 refine zN (zK (zT rfl (zS (zR (zP rfl (zN (zK (zE (zW (zQ (zQ (zW (zW (zQ (zQ (zW (zW (zQ (zQ (zW (zQ ?_)))))))))))))))))))))
 exact zk_ret1 (.inr rfl) rfl rfl ⟨rfl, hN1.chg.no hX2⟩
def AttT (nm : List UInt8) (la : List T.At) (k : AT) : Prop :=
 (nm ∈ ([[104, 50], [112], [112, 114, 101], [101, 109], [117, 108], [108, 105], [116, 98, 111, 100, 121], [116, 114], [116, 104]] : List (List UInt8)) ∧ la = []) ∨
 (nm = T.nImg ∧ ∃ v, la = [([97, 108, 116], v), ([115, 114, 99], addr)] ∧ U.whole v = true ∧ 0 ∉ v ∧ v.length ≤ 1000000) ∨
 (nm = [116, 97, 98, 108, 101] ∧ la = [] ∧ ∃ x1 x2 x3 q, k = .cons x1 (.cons x2 (.cons x3 q .nil) .nil) .nil ∧ x3.name = [116, 104])
end
open T (big AT)
section
variable {w : World} {A F K : Value} {tx : List UInt8} {k : AT}
theorem attrs_h2 (hA : T.AttrS false w A []) (hF : T.isSl F) (hK : T.TreeAt false w K k) : Calls Tryz.prog 61 [.agg #[.string (bs [104, 50]), A, .string (bs tx), F, K]].toArray w fun e w' => e = .returned (.bool true) ∧ Chg w w' No := by
 have hbig : big = 1000000000000 := rfl
 have hF0 := hF
 obtain ⟨A2, m2, c2, rfl⟩ := hF
 obtain ⟨AK, cK, rfl, hcK⟩ := hK.form
 obtain ⟨A1, c1, rfl, _⟩ := hA.form
 refine zCz 128 Tryz.func61 ?_
 refine zS (zR ?_)
 refine zBx rfl (fun w1 b1 hN1 => ?_)
 have hb1 : Blk w1 b1 43 [.string (bs [104, 50]), .slice A1 0 c1, .string (bs tx), .slice A2 m2 c2, .slice AK k.len cK] := hN1.blk
 refine zP rfl (zN (zK (zS (zR (zfa rfl (zlB rfl ?_))))))
 refine zP rfl (zN (zK (zS (zS (zR (zfa rfl (zlB rfl ?_)))))))
 refine zN (zK (zB (zS (zR ?_))))
 refine zEq rfl rfl (fun hc => absurd hc (by decide)) (fun _ => ?_)
 refine zP rfl (zN (zK (zF rfl (zS (zR ?_)))))
 refine zEq rfl rfl (fun hc => absurd hc (by decide)) (fun _ => ?_)
 refine zP rfl (zN (zK (zF rfl (zS (zR ?_)))))
 refine zEq rfl rfl (fun hc => absurd hc (by decide)) (fun _ => ?_)
 refine zP rfl (zN (zK (zF rfl (zS (zR ?_)))))
 refine zEq rfl rfl (fun hc => absurd hc (by decide)) (fun _ => ?_)
 refine zP rfl (zN (zK (zF rfl (zA (zM (zK (zS (zR (zP rfl (zLn rfl (zCT rfl rfl rfl (zP rfl (zN (zK (zE ?_)))))))))))))))
 exact zk_ret1 (.inr rfl) rfl rfl ⟨rfl, hN1.chg⟩
theorem attrs_p (hA : T.AttrS false w A []) (hF : T.isSl F) (hK : T.TreeAt false w K k) : Calls Tryz.prog 61 [.agg #[.string (bs [112]), A, .string (bs tx), F, K]].toArray w fun e w' => e = .returned (.bool true) ∧ Chg w w' No := by
 have hbig : big = 1000000000000 := rfl
 have hF0 := hF
 obtain ⟨A2, m2, c2, rfl⟩ := hF
 obtain ⟨AK, cK, rfl, hcK⟩ := hK.form
 obtain ⟨A1, c1, rfl, _⟩ := hA.form
 refine zCz 128 Tryz.func61 ?_
 refine zS (zR ?_)
 refine zBx rfl (fun w1 b1 hN1 => ?_)
 have hb1 : Blk w1 b1 43 [.string (bs [112]), .slice A1 0 c1, .string (bs tx), .slice A2 m2 c2, .slice AK k.len cK] := hN1.blk
 refine zP rfl (zN (zK (zS (zR (zfa rfl (zlB rfl ?_))))))
 refine zP rfl (zN (zK (zS (zS (zR (zfa rfl (zlB rfl ?_)))))))
 refine zN (zK (zB (zS (zR ?_))))
 refine zEq rfl rfl (fun hc => absurd hc (by decide)) (fun _ => ?_)
 refine zP rfl (zN (zK (zF rfl (zS (zR ?_)))))
 refine zEq rfl rfl (fun hc => absurd hc (by decide)) (fun _ => ?_)
 refine zP rfl (zN (zK (zF rfl (zS (zR ?_)))))
 refine zEq rfl rfl (fun hc => absurd hc (by decide)) (fun _ => ?_)
 refine zP rfl (zN (zK (zF rfl (zS (zR ?_)))))
 refine zEq rfl rfl (fun hc => absurd hc (by decide)) (fun _ => ?_)
 refine zP rfl (zN (zK (zF rfl (zA (zM (zK (zS (zR (zP rfl (zLn rfl (zCT rfl rfl rfl (zP rfl (zN (zK (zE ?_)))))))))))))))
 exact zk_ret1 (.inr rfl) rfl rfl ⟨rfl, hN1.chg⟩
theorem attrs_pre (hA : T.AttrS false w A []) (hF : T.isSl F) (hK : T.TreeAt false w K k) : Calls Tryz.prog 61 [.agg #[.string (bs [112, 114, 101]), A, .string (bs tx), F, K]].toArray w fun e w' => e = .returned (.bool true) ∧ Chg w w' No := by
 have hbig : big = 1000000000000 := rfl
 have hF0 := hF
 obtain ⟨A2, m2, c2, rfl⟩ := hF
 obtain ⟨AK, cK, rfl, hcK⟩ := hK.form
 obtain ⟨A1, c1, rfl, _⟩ := hA.form
 refine zCz 128 Tryz.func61 ?_
 refine zS (zR ?_)
 refine zBx rfl (fun w1 b1 hN1 => ?_)
 have hb1 : Blk w1 b1 43 [.string (bs [112, 114, 101]), .slice A1 0 c1, .string (bs tx), .slice A2 m2 c2, .slice AK k.len cK] := hN1.blk
 refine zP rfl (zN (zK (zS (zR (zfa rfl (zlB rfl ?_))))))
 refine zP rfl (zN (zK (zS (zS (zR (zfa rfl (zlB rfl ?_)))))))
 refine zN (zK (zB (zS (zR ?_))))
 refine zEq rfl rfl (fun hc => absurd hc (by decide)) (fun _ => ?_)
 refine zP rfl (zN (zK (zF rfl (zS (zR ?_)))))
 refine zEq rfl rfl (fun hc => absurd hc (by decide)) (fun _ => ?_)
 refine zP rfl (zN (zK (zF rfl (zS (zR ?_)))))
 refine zEq rfl rfl (fun hc => absurd hc (by decide)) (fun _ => ?_)
 refine zP rfl (zN (zK (zF rfl (zS (zR ?_)))))
 refine zEq rfl rfl (fun hc => absurd hc (by decide)) (fun _ => ?_)
 refine zP rfl (zN (zK (zF rfl (zA (zM (zK (zS (zR (zP rfl (zLn rfl (zCT rfl rfl rfl (zP rfl (zN (zK (zE ?_)))))))))))))))
 exact zk_ret1 (.inr rfl) rfl rfl ⟨rfl, hN1.chg⟩
theorem attrs_em (hA : T.AttrS false w A []) (hF : T.isSl F) (hK : T.TreeAt false w K k) : Calls Tryz.prog 61 [.agg #[.string (bs [101, 109]), A, .string (bs tx), F, K]].toArray w fun e w' => e = .returned (.bool true) ∧ Chg w w' No := by
 have hbig : big = 1000000000000 := rfl
 have hF0 := hF
 obtain ⟨A2, m2, c2, rfl⟩ := hF
 obtain ⟨AK, cK, rfl, hcK⟩ := hK.form
 obtain ⟨A1, c1, rfl, _⟩ := hA.form
 refine zCz 128 Tryz.func61 ?_
 refine zS (zR ?_)
 refine zBx rfl (fun w1 b1 hN1 => ?_)
 have hb1 : Blk w1 b1 43 [.string (bs [101, 109]), .slice A1 0 c1, .string (bs tx), .slice A2 m2 c2, .slice AK k.len cK] := hN1.blk
 refine zP rfl (zN (zK (zS (zR (zfa rfl (zlB rfl ?_))))))
 refine zP rfl (zN (zK (zS (zS (zR (zfa rfl (zlB rfl ?_)))))))
 refine zN (zK (zB (zS (zR ?_))))
 refine zEq rfl rfl (fun hc => absurd hc (by decide)) (fun _ => ?_)
 refine zP rfl (zN (zK (zF rfl (zS (zR ?_)))))
 refine zEq rfl rfl (fun hc => absurd hc (by decide)) (fun _ => ?_)
 refine zP rfl (zN (zK (zF rfl (zS (zR ?_)))))
 refine zEq rfl rfl (fun hc => absurd hc (by decide)) (fun _ => ?_)
 refine zP rfl (zN (zK (zF rfl (zS (zR ?_)))))
 refine zEq rfl rfl (fun hc => absurd hc (by decide)) (fun _ => ?_)
 refine zP rfl (zN (zK (zF rfl (zA (zM (zK (zS (zR (zP rfl (zLn rfl (zCT rfl rfl rfl (zP rfl (zN (zK (zE ?_)))))))))))))))
 exact zk_ret1 (.inr rfl) rfl rfl ⟨rfl, hN1.chg⟩
theorem attrs_ul (hA : T.AttrS false w A []) (hF : T.isSl F) (hK : T.TreeAt false w K k) : Calls Tryz.prog 61 [.agg #[.string (bs [117, 108]), A, .string (bs tx), F, K]].toArray w fun e w' => e = .returned (.bool true) ∧ Chg w w' No := by
 have hbig : big = 1000000000000 := rfl
 have hF0 := hF
 obtain ⟨A2, m2, c2, rfl⟩ := hF
 obtain ⟨AK, cK, rfl, hcK⟩ := hK.form
 obtain ⟨A1, c1, rfl, _⟩ := hA.form
 refine zCz 128 Tryz.func61 ?_
 refine zS (zR ?_)
 refine zBx rfl (fun w1 b1 hN1 => ?_)
 have hb1 : Blk w1 b1 43 [.string (bs [117, 108]), .slice A1 0 c1, .string (bs tx), .slice A2 m2 c2, .slice AK k.len cK] := hN1.blk
 refine zP rfl (zN (zK (zS (zR (zfa rfl (zlB rfl ?_))))))
 refine zP rfl (zN (zK (zS (zS (zR (zfa rfl (zlB rfl ?_)))))))
 refine zN (zK (zB (zS (zR ?_))))
 refine zEq rfl rfl (fun hc => absurd hc (by decide)) (fun _ => ?_)
 refine zP rfl (zN (zK (zF rfl (zS (zR ?_)))))
 refine zEq rfl rfl (fun hc => absurd hc (by decide)) (fun _ => ?_)
 refine zP rfl (zN (zK (zF rfl (zS (zR ?_)))))
 refine zEq rfl rfl (fun hc => absurd hc (by decide)) (fun _ => ?_)
 refine zP rfl (zN (zK (zF rfl (zS (zR ?_)))))
 refine zEq rfl rfl (fun hc => absurd hc (by decide)) (fun _ => ?_)
 refine zP rfl (zN (zK (zF rfl (zA (zM (zK (zS (zR (zP rfl (zLn rfl (zCT rfl rfl rfl (zP rfl (zN (zK (zE ?_)))))))))))))))
 exact zk_ret1 (.inr rfl) rfl rfl ⟨rfl, hN1.chg⟩
theorem attrs_li (hA : T.AttrS false w A []) (hF : T.isSl F) (hK : T.TreeAt false w K k) : Calls Tryz.prog 61 [.agg #[.string (bs [108, 105]), A, .string (bs tx), F, K]].toArray w fun e w' => e = .returned (.bool true) ∧ Chg w w' No := by
 have hbig : big = 1000000000000 := rfl
 have hF0 := hF
 obtain ⟨A2, m2, c2, rfl⟩ := hF
 obtain ⟨AK, cK, rfl, hcK⟩ := hK.form
 obtain ⟨A1, c1, rfl, _⟩ := hA.form
 refine zCz 128 Tryz.func61 ?_
 refine zS (zR ?_)
 refine zBx rfl (fun w1 b1 hN1 => ?_)
 have hb1 : Blk w1 b1 43 [.string (bs [108, 105]), .slice A1 0 c1, .string (bs tx), .slice A2 m2 c2, .slice AK k.len cK] := hN1.blk
 refine zP rfl (zN (zK (zS (zR (zfa rfl (zlB rfl ?_))))))
 refine zP rfl (zN (zK (zS (zS (zR (zfa rfl (zlB rfl ?_)))))))
 refine zN (zK (zB (zS (zR ?_))))
 refine zEq rfl rfl (fun hc => absurd hc (by decide)) (fun _ => ?_)
 refine zP rfl (zN (zK (zF rfl (zS (zR ?_)))))
 refine zEq rfl rfl (fun hc => absurd hc (by decide)) (fun _ => ?_)
 refine zP rfl (zN (zK (zF rfl (zS (zR ?_)))))
 refine zEq rfl rfl (fun hc => absurd hc (by decide)) (fun _ => ?_)
 refine zP rfl (zN (zK (zF rfl (zS (zR ?_)))))
 refine zEq rfl rfl (fun hc => absurd hc (by decide)) (fun _ => ?_)
 refine zP rfl (zN (zK (zF rfl (zA (zM (zK (zS (zR (zP rfl (zLn rfl (zCT rfl rfl rfl (zP rfl (zN (zK (zE ?_)))))))))))))))
 exact zk_ret1 (.inr rfl) rfl rfl ⟨rfl, hN1.chg⟩
theorem attrs_tbody (hA : T.AttrS false w A []) (hF : T.isSl F) (hK : T.TreeAt false w K k) : Calls Tryz.prog 61 [.agg #[.string (bs [116, 98, 111, 100, 121]), A, .string (bs tx), F, K]].toArray w fun e w' => e = .returned (.bool true) ∧ Chg w w' No := by
 have hbig : big = 1000000000000 := rfl
 have hF0 := hF
 obtain ⟨A2, m2, c2, rfl⟩ := hF
 obtain ⟨AK, cK, rfl, hcK⟩ := hK.form
 obtain ⟨A1, c1, rfl, _⟩ := hA.form
 refine zCz 128 Tryz.func61 ?_
 refine zS (zR ?_)
 refine zBx rfl (fun w1 b1 hN1 => ?_)
 have hb1 : Blk w1 b1 43 [.string (bs [116, 98, 111, 100, 121]), .slice A1 0 c1, .string (bs tx), .slice A2 m2 c2, .slice AK k.len cK] := hN1.blk
 refine zP rfl (zN (zK (zS (zR (zfa rfl (zlB rfl ?_))))))
 refine zP rfl (zN (zK (zS (zS (zR (zfa rfl (zlB rfl ?_)))))))
 refine zN (zK (zB (zS (zR ?_))))
 refine zEq rfl rfl (fun hc => absurd hc (by decide)) (fun _ => ?_)
 refine zP rfl (zN (zK (zF rfl (zS (zR ?_)))))
 refine zEq rfl rfl (fun hc => absurd hc (by decide)) (fun _ => ?_)
 refine zP rfl (zN (zK (zF rfl (zS (zR ?_)))))
 refine zEq rfl rfl (fun hc => absurd hc (by decide)) (fun _ => ?_)
 refine zP rfl (zN (zK (zF rfl (zS (zR ?_)))))
 refine zEq rfl rfl (fun hc => absurd hc (by decide)) (fun _ => ?_)
 refine zP rfl (zN (zK (zF rfl (zA (zM (zK (zS (zR (zP rfl (zLn rfl (zCT rfl rfl rfl (zP rfl (zN (zK (zE ?_)))))))))))))))
 exact zk_ret1 (.inr rfl) rfl rfl ⟨rfl, hN1.chg⟩
theorem attrs_tr (hA : T.AttrS false w A []) (hF : T.isSl F) (hK : T.TreeAt false w K k) : Calls Tryz.prog 61 [.agg #[.string (bs [116, 114]), A, .string (bs tx), F, K]].toArray w fun e w' => e = .returned (.bool true) ∧ Chg w w' No := by
 have hbig : big = 1000000000000 := rfl
 have hF0 := hF
 obtain ⟨A2, m2, c2, rfl⟩ := hF
 obtain ⟨AK, cK, rfl, hcK⟩ := hK.form
 obtain ⟨A1, c1, rfl, _⟩ := hA.form
 refine zCz 128 Tryz.func61 ?_
 refine zS (zR ?_)
 refine zBx rfl (fun w1 b1 hN1 => ?_)
 have hb1 : Blk w1 b1 43 [.string (bs [116, 114]), .slice A1 0 c1, .string (bs tx), .slice A2 m2 c2, .slice AK k.len cK] := hN1.blk
 refine zP rfl (zN (zK (zS (zR (zfa rfl (zlB rfl ?_))))))
 refine zP rfl (zN (zK (zS (zS (zR (zfa rfl (zlB rfl ?_)))))))
 refine zN (zK (zB (zS (zR ?_))))
 refine zEq rfl rfl (fun hc => absurd hc (by decide)) (fun _ => ?_)
 refine zP rfl (zN (zK (zF rfl (zS (zR ?_)))))
 refine zEq rfl rfl (fun hc => absurd hc (by decide)) (fun _ => ?_)
 refine zP rfl (zN (zK (zF rfl (zS (zR ?_)))))
 refine zEq rfl rfl (fun hc => absurd hc (by decide)) (fun _ => ?_)
 refine zP rfl (zN (zK (zF rfl (zS (zR ?_)))))
 refine zEq rfl rfl (fun hc => absurd hc (by decide)) (fun _ => ?_)
 refine zP rfl (zN (zK (zF rfl (zA (zM (zK (zS (zR (zP rfl (zLn rfl (zCT rfl rfl rfl (zP rfl (zN (zK (zE ?_)))))))))))))))
 exact zk_ret1 (.inr rfl) rfl rfl ⟨rfl, hN1.chg⟩
theorem attrs_th (hA : T.AttrS false w A []) (hF : T.isSl F) (hK : T.TreeAt false w K k) : Calls Tryz.prog 61 [.agg #[.string (bs [116, 104]), A, .string (bs tx), F, K]].toArray w fun e w' => e = .returned (.bool true) ∧ Chg w w' No := by
 have hbig : big = 1000000000000 := rfl
 have hF0 := hF
 obtain ⟨A2, m2, c2, rfl⟩ := hF
 obtain ⟨AK, cK, rfl, hcK⟩ := hK.form
 obtain ⟨A1, c1, rfl, _⟩ := hA.form
 refine zCz 128 Tryz.func61 ?_
 refine zS (zR ?_)
 refine zBx rfl (fun w1 b1 hN1 => ?_)
 have hb1 : Blk w1 b1 43 [.string (bs [116, 104]), .slice A1 0 c1, .string (bs tx), .slice A2 m2 c2, .slice AK k.len cK] := hN1.blk
 refine zP rfl (zN (zK (zS (zR (zfa rfl (zlB rfl ?_))))))
 refine zP rfl (zN (zK (zS (zS (zR (zfa rfl (zlB rfl ?_)))))))
 refine zN (zK (zB (zS (zR ?_))))
 refine zEq rfl rfl (fun hc => absurd hc (by decide)) (fun _ => ?_)
 refine zP rfl (zN (zK (zF rfl (zS (zR ?_)))))
 refine zEq rfl rfl (fun hc => absurd hc (by decide)) (fun _ => ?_)
 refine zP rfl (zN (zK (zF rfl (zS (zR ?_)))))
 refine zEq rfl rfl (fun hc => absurd hc (by decide)) (fun _ => ?_)
 refine zP rfl (zN (zK (zF rfl (zS (zR ?_)))))
 refine zEq rfl rfl (fun hc => absurd hc (by decide)) (fun _ => ?_)
 refine zP rfl (zN (zK (zF rfl (zA (zM (zK (zS (zR (zP rfl (zLn rfl (zCT rfl rfl rfl (zP rfl (zN (zK (zE ?_)))))))))))))))
 exact zk_ret1 (.inr rfl) rfl rfl ⟨rfl, hN1.chg⟩
theorem attrs_table (hA : T.AttrS false w A []) (hF : T.isSl F) (hK : T.TreeAt false w K k) {x1 x2 x3 : T.Hd} {q : AT} (hk : k = .cons x1 (.cons x2 (.cons x3 q .nil) .nil) .nil) (h3 : x3.name = [116, 104]) : Calls Tryz.prog 61 [.agg #[.string (bs [116, 97, 98, 108, 101]), A, .string (bs tx), F, K]].toArray w fun e w' => e = .returned (.bool true) ∧ Chg w w' No := by
 have hbig : big = 1000000000000 := rfl
 have hF0 := hF
 obtain ⟨A2, m2, c2, rfl⟩ := hF
 obtain ⟨AK, cK, rfl, hcK⟩ := hK.form
 obtain ⟨A1, c1, rfl, _⟩ := hA.form
 refine zCz 128 Tryz.func61 ?_
 refine zS (zR ?_)
 refine zBx rfl (fun w1 b1 hN1 => ?_)
 have hb1 : Blk w1 b1 43 [.string (bs [116, 97, 98, 108, 101]), .slice A1 0 c1, .string (bs tx), .slice A2 m2 c2, .slice AK k.len cK] := hN1.blk
 refine zP rfl (zN (zK (zS (zR (zfa rfl (zlB rfl ?_))))))
 refine zP rfl (zN (zK (zS (zS (zR (zfa rfl (zlB rfl ?_)))))))
 refine zN (zK (zB (zS (zR ?_))))
 refine zEq rfl rfl (fun hc => absurd hc (by decide)) (fun _ => ?_)
 refine zP rfl (zN (zK (zF rfl (zS (zR ?_)))))
 refine zEq rfl rfl (fun hc => absurd hc (by decide)) (fun _ => ?_)
 refine zP rfl (zN (zK (zF rfl (zS (zR ?_)))))
 refine zEq rfl rfl (fun hc => absurd hc (by decide)) (fun _ => ?_)
 refine zP rfl (zN (zK (zF rfl (zS (zR ?_)))))
 refine zEq rfl rfl (fun _ => ?_) (fun hc => absurd hc (by decide))
 refine zP rfl (zN (zK (zT rfl (zS (zS (zR (zlA rfl ?_)))))))
 have hA1 : T.isSl (.slice A1 0 c1) := ⟨_, _, _, rfl⟩
 have hK1 := hK.no hN1.chg
 have hK2 : T.TreeAt false w1 (.slice AK k.len cK) (.cons x1 (.cons x2 (.cons x3 q .nil) .nil) .nil) := by rw [← hk]; exact hK1
 refine zCl rfl (titled_calls (nm := [116, 97, 98, 108, 101]) (tx := tx) hA1 hF0 hK2 h3) ?_
 rintro _ w2 ⟨rfl, hC2⟩
 refine ⟨_, rfl, ?_⟩
 have hb2 := hb1.no hC2
 refine zN (zK (zT rfl (zS (zR (zP rfl (zLn rfl (zCT rfl rfl rfl (zP rfl (zN (zK (zE (zQ (zW (zQ ?_))))))))))))))
 exact zk_ret1 (.inr rfl) rfl rfl ⟨rfl, hN1.chg.no hC2⟩
theorem attrs_img {v : List UInt8} (hA : T.AttrS false w A [([97, 108, 116], v), ([115, 114, 99], addr)]) (hF : T.isSl F) (hK : T.TreeAt false w K k) (hw : U.whole v = true) (h0 : 0 ∉ v) (hv : v.length ≤ 1000000) : Calls Tryz.prog 61 [.agg #[.string (bs [105, 109, 103]), A, .string (bs tx), F, K]].toArray w fun e w' => e = .returned (.bool true) ∧ Chg w w' No := by
 have hbig : big = 1000000000000 := rfl
 have hF0 := hF
 obtain ⟨A2, m2, c2, rfl⟩ := hF
 obtain ⟨AK, cK, rfl, hcK⟩ := hK.form
 obtain ⟨b, o, c, hA1, g0, g1⟩ := hA.at_ 0 (by simp)
 obtain ⟨b', o', c', hA2, g2, g3⟩ := hA.at_ 1 (by simp)
 rw [hA1] at hA2
 cases hA2
 have hA1 : A = .slice (some ⟨b, o, none⟩) 2 c := hA1
 subst hA1
 have g0 : w.cell? ⟨b, o + 0 * 2, none⟩ = some (.string (bs [97, 108, 116])) := g0
 have g1 : w.cell? ⟨b, o + 0 * 2 + 1, none⟩ = some (.string (bs v)) := g1
 have g2 : w.cell? ⟨b, o + 1 * 2, none⟩ = some (.string (bs [115, 114, 99])) := g2
 have g3 : w.cell? ⟨b, o + 1 * 2 + 1, none⟩ = some (.string (bs addr)) := g3
 refine zCz 128 Tryz.func61 ?_
 refine zS (zR ?_)
 refine zBx rfl (fun w1 b1 hN1 => ?_)
 have hb1 : Blk w1 b1 43 [.string (bs [105, 109, 103]), .slice (some ⟨b, o, none⟩) 2 c, .string (bs tx), .slice A2 m2 c2, .slice AK k.len cK] := hN1.blk
 have g0 := cell_keep hN1.chg g0
 have g1 := cell_keep hN1.chg g1
 have g2 := cell_keep hN1.chg g2
 have g3 := cell_keep hN1.chg g3
 refine zP rfl (zN (zK (zS (zR (zfa rfl (zlB rfl ?_))))))
 refine zP rfl (zN (zK (zS (zS (zR (zfa rfl (zlB rfl ?_)))))))
 refine zN (zK (zB (zS (zR ?_))))
 refine zEq rfl rfl (fun hc => absurd hc (by decide)) (fun _ => ?_)
 refine zP rfl (zN (zK (zF rfl (zS (zR ?_)))))
 refine zEq rfl rfl (fun _ => ?_) (fun hc => absurd hc (by decide))
 refine zP rfl (zN (zK (zT rfl (zS (zS (zR (zP rfl (zLn rfl (zCF rfl rfl rfl (zP rfl (zP rfl (zLn rfl (zCF rfl rfl rfl (zP rfl (zP rfl (zP rfl (zIa rfl rfl (zfa rfl (zL1 rfl (by assumption) ?_)))))))))))))))))))
 refine z_neL (want_L rfl) (by decide) rfl rfl (fun hc => absurd hc (by decide)) (fun _ => ?_)
 refine zP rfl (zP rfl (zP rfl (zIa rfl rfl (zfa rfl (zL1 rfl (by assumption) ?_)))))
 refine zCl rfl (wholeV_calls v hv hw h0) ?_
 rintro _ w2 ⟨rfl, hw2⟩
 obtain rfl := hw2.symm
 refine ⟨_, rfl, ?_⟩
 refine zP rfl (zP rfl (zP rfl (zP rfl (zIa rfl rfl (zfa rfl (zL1 rfl (by assumption) ?_))))))
 refine z_neL (want_L rfl) (by decide) rfl rfl (fun hc => absurd hc (by decide)) (fun _ => ?_)
 refine zP rfl (zP rfl (zP rfl (zIa rfl rfl (zfa rfl (zL1 rfl (by assumption) ?_)))))
 refine zCl rfl good_calls ?_
 rintro _ w2 ⟨rfl, hC2⟩
 refine ⟨_, rfl, ?_⟩
 refine zP rfl (zP rfl (zN (zK (zF rfl (zA (zK (zS (zR (zP rfl (zLn rfl (zCT rfl rfl rfl (zP rfl (zP rfl (zJ rfl (zJ rfl (zJ rfl (zJ rfl (zP rfl (zP rfl (zJ rfl (zJ rfl (zJ rfl (zJ rfl (zP rfl (zP rfl (zP rfl (zN (zK (zE (zW (zQ ?_)))))))))))))))))))))))))))))))
 exact zk_ret1 (.inr rfl) rfl rfl ⟨rfl, hN1.chg.no hC2⟩
theorem attrs_calls {nm : List UInt8} {la : List T.At} (hA : T.AttrS false w A la) (hF : T.isSl F) (hK : T.TreeAt false w K k) (hT : AttT nm la k) : Calls Tryz.prog 61 [.agg #[.string (bs nm), A, .string (bs tx), F, K]].toArray w fun e w' => e = .returned (.bool true) ∧ Chg w w' No := by
 rcases hT with ⟨hn, rfl⟩ | ⟨rfl, v, rfl, h1, h2, h3⟩ | ⟨rfl, rfl, x1, x2, x3, q, h1, h2⟩
 ·simp only [List.mem_cons, List.not_mem_nil, or_false] at hn
  rcases hn with rfl | rfl | rfl | rfl | rfl | rfl | rfl | rfl | rfl
  ·exact attrs_h2 hA hF hK
  ·exact attrs_p hA hF hK
  ·exact attrs_pre hA hF hK
  ·exact attrs_em hA hF hK
  ·exact attrs_ul hA hF hK
  ·exact attrs_li hA hF hK
  ·exact attrs_tbody hA hF hK
  ·exact attrs_tr hA hF hK
  ·exact attrs_th hA hF hK
 ·exact attrs_img hA hF hK h1 h2 h3
 ·exact attrs_table hA hF hK h1 h2
end
open T (big AT)
def RowsZ (w : World) : AT → List T.MA → Prop
 | .nil, ms => ms = []
 | .cons x k r, ms => ∃ m q, ms = m :: q ∧ T.HR true w m x ∧ m.fr = T.nS ∧ (∃ ks, T.Rx true w 43 5 m.kids ks.length (T.encM ks) ∧ RowsZ w k ks) ∧ RowsZ w r q
def TreeZ (w : World) (v : Value) (t : AT) : Prop := ∃ ms, T.Rx true w 43 5 v ms.length (T.encM ms) ∧ RowsZ w t ms
section
variable {w w' : World} {v : Value} {t : AT}
theorem RowsZ.rows : ∀ (t : AT) (ms : List T.MA), RowsZ w t ms → T.Rows true w t ms
 | .nil, ms, h => h
 | .cons x k r, ms, h => by
  obtain ⟨m, q, h1, h2, _, ⟨ks, h3, h4⟩, h5⟩ := h
  exact ⟨m, q, h1, h2, ⟨ks, h3, RowsZ.rows k ks h4⟩, RowsZ.rows r q h5⟩
theorem RowsZ.no (hc : Chg w w' No) : ∀ (t : AT) (ms : List T.MA), RowsZ w t ms → RowsZ w' t ms
 | .nil, ms, h => h
 | .cons x k r, ms, h => by
  obtain ⟨m, q, h1, h2, hf, ⟨ks, h3, h4⟩, h5⟩ := h
  exact ⟨m, q, h1, h2.no hc, hf, ⟨ks, h3.no hc, RowsZ.no hc k ks h4⟩, RowsZ.no hc r q h5⟩
theorem TreeZ.tree' (h : TreeZ w v t) : T.TreeAt true w v t := by
 obtain ⟨ms, h1, h2⟩ := h
 exact ⟨ms, h1, RowsZ.rows t ms h2⟩
theorem TreeZ.tree (h : TreeZ w v t) : T.TreeAt false w v t := h.tree'.weak
theorem TreeZ.nil : TreeZ w T.nS .nil := ⟨[], T.Rx.nil, rfl⟩
theorem TreeZ.no (h : TreeZ w v t) (hc : Chg w w' No) : TreeZ w' v t := by
 obtain ⟨ms, h1, h2⟩ := h
 exact ⟨ms, h1.no hc, RowsZ.no hc t ms h2⟩
theorem RowsZ.at_ : ∀ (t : AT) (ms : List T.MA) (i : Nat), RowsZ w t ms → i < t.len → ∃ x k r, t.dropN i = .cons x k r ∧ T.HR true w (ms.getD i T.MA.z) x ∧ (ms.getD i T.MA.z).fr = T.nS ∧ TreeZ w (ms.getD i T.MA.z).kids k
 | .nil, ms, i, h, hi => by simp [AT.len] at hi
 | .cons x k r, ms, 0, h, hi => by
  obtain ⟨m, q, rfl, h2, hf, h3, h5⟩ := h
  exact ⟨x, k, r, rfl, h2, hf, h3⟩
 | .cons x k r, ms, i + 1, h, hi => by
  obtain ⟨m, q, rfl, h2, hf, h3, h5⟩ := h
  exact RowsZ.at_ r q i h5 (by simp only [AT.len] at hi; omega)
theorem TreeZ.at_ (h : TreeZ w v t) (i : Nat) (hi : i < t.len) : ∃ b o c x k r A K, t.dropN i = .cons x k r ∧ v = .slice (some ⟨b, o, none⟩) t.len c ∧ T.ArtC w b (o + i * 5) x A T.nS K ∧ T.AttrS false w A x.attrs ∧ TreeZ w K k := by
 obtain ⟨ms, h1, h2⟩ := h
 have hlen := T.Rows.len t ms (RowsZ.rows t ms h2)
 obtain ⟨b, o, c, hv, _, hc⟩ := h1.some (by omega)
 obtain ⟨x, k, r, e1, ⟨g0, g1, g2, g3⟩, hf, e3⟩ := RowsZ.at_ t ms i h2 hi
 have hg := T.encM_get ms i (by omega)
 refine ⟨b, o, c, x, k, r, (ms.getD i T.MA.z).attrs, (ms.getD i T.MA.z).kids, e1, by rw [hv, hlen], ?_, g1.weak, e3⟩
 constructor
 ·have := hc _ _ (hg 0 _ rfl); rw [← g0]; exact this
 ·have := hc _ _ (hg 1 _ rfl); rw [Nat.add_assoc]; exact this
 ·have := hc _ _ (hg 2 _ rfl); rw [← g2]; rw [Nat.add_assoc]; exact this
 ·have := hc _ _ (hg 3 _ rfl); rw [Nat.add_assoc, ← hf]; exact this
 ·have := hc _ _ (hg 4 _ rfl); rw [Nat.add_assoc]; exact this
theorem treeZ_new {b : Nat} {ms : List T.MA} (hN : New w w' b 43 (T.encM ms)) (hR : RowsZ w t ms) : TreeZ w' (.slice (some ⟨b, 0, none⟩) ms.length ms.length) t :=
 ⟨ms, T.Rx.of (RdS.new hN (T.encM_len ms) (T.Rows.one t ms (RowsZ.rows t ms hR))), RowsZ.no hN.chg t ms hR⟩
theorem rowsZ_cons {nm tx : List UInt8} {A K : Value} {l : List T.At} {k r : AT} {q : List T.MA} (hA : T.AttrS true w A l) (hK : TreeZ w K k) (hr : RowsZ w r q) : RowsZ w (.cons ⟨nm, l, tx⟩ k r) (⟨nm, A, tx, T.nS, K⟩ :: q) :=
 ⟨_, q, rfl, ⟨rfl, hA, rfl, T.isSl_nil⟩, rfl, hK, hr⟩
theorem rowsZ_nil : RowsZ w .nil [] := rfl
end
def EOk : AT → Prop
 | .nil => True
 | .cons x k r => (if x.name = [] then x.text ≠ [] ∧ U.whole x.text = true ∧ 0 ∉ x.text ∧ x.text.length ≤ 1000000 ∧ x.attrs = [] ∧ k = .nil else x.text = [] ∧ AttT x.name x.attrs k ∧ KidT x.name k ∧ EOk k) ∧ EOk r
theorem EOk.at_ : ∀ (t : AT) (i : Nat) (x : T.Hd) (k r : AT), EOk t → t.dropN i = .cons x k r → (if x.name = [] then x.text ≠ [] ∧ U.whole x.text = true ∧ 0 ∉ x.text ∧ x.text.length ≤ 1000000 ∧ x.attrs = [] ∧ k = .nil else x.text = [] ∧ AttT x.name x.attrs k ∧ KidT x.name k ∧ EOk k)
 | .nil, 0, x, k, r, h, he => by cases he
 | .nil, i + 1, x, k, r, h, he => by cases he
 | .cons _ _ _, 0, x, k, r, h, he => by cases he; exact h.1
 | .cons _ _ q, i + 1, x, k, r, h, he => EOk.at_ q i x k r h.2 he
theorem each_calls : ∀ (n : Nat) {w : World} {v : Value} (t : AT), t.size = n → n ≤ big → t.wt ≤ big → TreeZ w v t → EOk t → Calls Tryz.prog 35 [v].toArray w fun e w' => e = .returned (.bool true) ∧ Chg w w' No := by
 have hbig : big = 1000000000000 := rfl
 intro n
 induction n using Nat.strongRecOn with
 | _ n ih =>
 intro w v t hs hn hwt h hok
 obtain ⟨A, c, rfl, hc⟩ := h.tree.form
 have hls := t.len_size
 refine zCz 62 Tryz.func35 ?_
 refine zS (zR (zP rfl (zN (zK (zS (zS (zR (zP rfl (zN (zK (zB ?_)))))))))))
 refine zc_loopW (ι := Nat) (fun i u => [(0, .slice A t.len c), (3, .int .i64 (i : Nat))]) (fun i u => i ≤ t.len ∧ Chg w u No) (fun i u => t.len - i) 0 ⟨Nat.zero_le _, Chg.refl _ _⟩ ⟨rfl, rfl, trivial⟩ ?_
 rintro i u ⟨hi, hC⟩
 by_cases hlt : i < t.len
 rotate_left
 ·refine zS (zS (zR (zP rfl (zP rfl (zLn rfl (zCF rfl rfl rfl (zN (zK (zF rfl (zL (zX (zX (zY (zK (zS (zR (zP rfl (zN (zK (zE ?_))))))))))))))))))))
  exact zk_ret1 (.inr rfl) rfl rfl ⟨rfl, hC⟩
 obtain ⟨b', o, c', x, k, r, A', K, e1, hv, hN, hA, hK⟩ := (h.no hC).at_ i hlt
 cases hv
 have hx := EOk.at_ t i x k r hok e1
 obtain ⟨hwx, hwk⟩ := wt_at e1
 have hsz := t.drop_size i
 rw [e1] at hsz
 simp only [AT.size] at hsz
 obtain ⟨nm, la, tx⟩ := x
 dsimp only at hA hx hN hwx
 obtain ⟨A2, c2, rfl, _⟩ := hA.form
 obtain ⟨A4, c4, rfl, _⟩ := hK.tree.form
 refine zS (zS (zR (zP rfl (zP rfl (zLn rfl (zCT rfl rfl rfl (zN (zK (zT rfl (zA (zK (zS (zB (zS (zR (zP rfl (zP rfl (zIa rfl rfl ?_))))))))))))))))))
 refine z_loadA (by rfl) (want_L rfl) (by decide) rfl (hN.agg (by omega)) ?_
 refine zAl (fun u1 b1 hN1 => ?_)
 have hb1 : Blk u1 b1 43 [.string ⟨#[]⟩, T.nS, .string ⟨#[]⟩, T.nS, T.nS] := hN1.blk
 refine z_store (want_L rfl) rfl rfl rfl (by assumption) (by first | exact Nat.le_refl _ | simp [Value.cells]) (by simp [Value.cells, Value.oneCell']) (fun u2 hU2 => ?_)
 have hb2 : Blk u2 b1 43 [.string (bs nm), .slice A2 la.length c2, .string (bs tx), T.nS, .slice A4 k.len c4] := hU2.blk
 have hX2 : Chg u u2 No := hN1.chg.upd hU2 (hN1.ge (Chg.refl _ No))
 have hC2 : Chg w u2 No := hC.no hX2
 have hK2 := hK.no hX2
 have hA2 := hA.no hX2
 have hF2 : T.isSl T.nS := ⟨_, _, _, rfl⟩
 by_cases hnm : nm = []
 ·rw [if_pos hnm] at hx
  obtain ⟨g1, g2, g3, g4, g5, g6⟩ := hx
  have g5 : la.length = 0 := by rw [g5]; rfl
  have g6 : k.len = 0 := by rw [g6]; rfl
  refine zN (zK (zS (zS (zR (zfa rfl (zlB rfl ?_))))))
  refine zEq rfl rfl (fun _ => ?_) (fun hc => absurd (by assumption) hc)
  refine zN (zK (zT rfl (zS (zS (zR (zfa rfl (zlB rfl ?_)))))))
  refine zEq rfl rfl (fun hc => absurd hc (by assumption)) (fun _ => ?_)
  refine zP rfl (zfa rfl (zlB rfl ?_))
  refine zCl rfl (wholeV_calls tx g4 g2 g3) ?_
  rintro _ u3 ⟨rfl, hu3⟩
  obtain rfl := hu3.symm
  refine ⟨_, rfl, ?_⟩
  refine zP rfl (zP rfl (zP rfl (zfa rfl (zlB rfl ?_))))
  refine zLn rfl (zfa rfl (zlB rfl ?_))
  refine zLn rfl (zAd rfl rfl (zCF rfl rfl rfl (zP rfl (zN (zK (zF rfl (zA (zK (zL (zX (zY (zK (zR (zP rfl (zAd rfl rfl (zP rfl (zN ?_)))))))))))))))))
  exact zk_loopW (i + 1) ⟨by omega, hC2⟩ (by omega) ⟨rfl, get_int rfl (by omega), trivial⟩
 ·rw [if_neg hnm] at hx
  obtain ⟨g1, g2, g3, g4⟩ := hx
  refine zN (zK (zS (zS (zR (zfa rfl (zlB rfl ?_))))))
  refine zEq rfl rfl (fun hc => absurd hc (by assumption)) (fun _ => ?_)
  refine zN (zK (zF rfl (zA (zK (zS (zR (zfa rfl (zlB rfl ?_))))))))
  refine z_neL want_none (by decide) rfl rfl (fun hc => absurd (by assumption) hc) (fun _ => ?_)
  refine zP rfl (zfa rfl (zlB rfl ?_))
  refine zLn rfl (zCF rfl rfl rfl (zP rfl (zP rfl (zlA rfl ?_))))
  refine zCl rfl (attrs_calls hA2 hF2 hK2.tree g2) ?_
  rintro _ u3 ⟨rfl, hC3⟩
  refine ⟨_, rfl, ?_⟩
  have hb3 := hb2.no hC3
  have hK3 := hK2.no hC3
  refine zP rfl (zP rfl (zP rfl (zlA rfl ?_)))
  refine zCl rfl (kids_calls ⟨_, _, _, rfl⟩ hF2 hK3.tree (by omega) g3) ?_
  rintro _ u4 ⟨rfl, hC4⟩
  refine ⟨_, rfl, ?_⟩
  have hb4 := hb3.no hC4
  have hK4 := hK3.no hC4
  refine zP rfl (zP rfl (zP rfl (zfa rfl (zlB rfl ?_))))
  refine zCl rfl (ih k.size (by omega) k rfl (by omega) (by omega) hK4 g4) ?_
  rintro _ u5 ⟨rfl, hC5⟩
  refine ⟨_, rfl, ?_⟩
  refine zP rfl (zP rfl (zN (zK (zF rfl (zA (zM (zK (zR (zP rfl (zAd rfl rfl (zP rfl (zN ?_))))))))))))
  exact zk_loopW (i + 1) ⟨by omega, ((hC2.no hC3).no hC4).no hC5⟩ (by omega) ⟨rfl, get_int rfl (by omega), trivial⟩
theorem right_calls {w : World} {v : Value} (t : AT) (hs : t.size ≤ 40) (hwt : t.wt ≤ big) (h : TreeZ w v t) (ho : T.ofA T.tBlk t) (hok : EOk t) : Calls Tryz.prog 14 [v].toArray w fun e w' => e = .returned (.bool true) ∧ Chg w w' No := by
 have hbig : big = 1000000000000 := rfl
 obtain ⟨A, c, rfl, hc⟩ := h.tree.form
 refine zCz 14 Tryz.func14 ?_
 refine zS (zR (zP rfl (zN (zK (zS (zR (zP rfl ?_)))))))
 refine zCl rfl (of_calls t _ (by decide) h.tree (by omega)) ?_
 rintro _ w1 ⟨⟨q, rfl, hq⟩, hC1⟩
 refine ⟨_, rfl, ?_⟩
 have hwd : T.wordsN [] [98, 108, 111, 99, 107, 113, 117, 111, 116, 101, 32, 104, 50, 32, 104, 51, 32, 104, 52, 32, 104, 53, 32, 104, 54, 32, 104, 114, 32, 111, 108, 32, 112, 32, 112, 114, 101, 32, 116, 97, 98, 108, 101, 32, 117, 108] = T.tBlk := by decide +kernel
 obtain rfl : q = true := hq.2 (hwd ▸ ho)
 refine zP rfl (zP rfl ?_)
 refine zCl rfl (deep_calls t.size t (Nat.le_refl _) (by omega) (h.no hC1).tree) ?_
 rintro _ w2 ⟨⟨d, rfl, hd⟩, hC2⟩
 refine ⟨_, rfl, ?_⟩
 refine zCT rfl rfl rfl (zP rfl (zP rfl (zP rfl ?_)))
 refine zCl rfl (each_calls t.size t rfl (by omega) hwt ((h.no hC1).no hC2) hok) ?_
 rintro _ w3 ⟨rfl, hC3⟩
 refine ⟨_, rfl, ?_⟩
 refine zP rfl (zP rfl (zN (zK (zE ?_))))
 exact zk_ret1 (.inr rfl) rfl rfl ⟨rfl, (hC1.no hC2).no hC3⟩
open T (big AT)
def wAlt : List UInt8 := [97, 108, 116]
def wSrc : List UInt8 := [115, 114, 99]
def wEm : List UInt8 := [101, 109]
def txLine (v x : List UInt8) : AT := .cons ⟨[], [], v⟩ .nil (.cons ⟨T.nImg, [(wAlt, x), (wSrc, addr)], []⟩ .nil (.cons ⟨wEm, [], []⟩ (.cons ⟨[], [], v⟩ .nil .nil) .nil))
def txEl (n : List UInt8) (k : AT) : AT := .cons ⟨n, [], []⟩ k .nil
def txT (v x : List UInt8) : Nat → AT
 | 0 => txEl [112] (txLine v x)
 | 1 => txEl [112, 114, 101] (txLine v x)
 | 2 => txEl [104, 50] (txLine v x)
 | 3 => txEl [117, 108] (txEl [108, 105] (txLine v x))
 | _ => txEl [116, 97, 98, 108, 101] (txEl [116, 98, 111, 100, 121] (txEl [116, 114] (txEl [116, 104] (txLine v x))))
structure TxOk (v x : List UInt8) : Prop where
 ne : v ≠ []
 wv : U.whole v = true
 wx : U.whole x = true
 zv : 0 ∉ v
 zx : 0 ∉ x
 ln : v.length + x.length ≤ 300
section
variable {v x : List UInt8}
theorem img_in : T.nImg ∈ T.tInl := by decide
theorem img_ne : ¬ T.nImg = [] := by decide
theorem em_ne : ¬ ([] : List UInt8) = wEm := by decide
theorem line_line (v x : List UInt8) : T.lineA (txLine v x) := ⟨.inl rfl, fun _ => rfl, .inr img_in, fun h => absurd h img_ne, .inr (by decide), fun h => absurd h (by decide), trivial⟩
theorem line_img (v x : List UInt8) : ∃ i y q r, i < (txLine v x).len ∧ (txLine v x).dropN i = .cons y q r ∧ y.name = T.nImg := ⟨1, _, _, _, by show 1 < 3; decide, rfl, rfl⟩
theorem line_EOk (h : TxOk v x) : EOk (txLine v x) := by
 have hl := h.ln
 have hv : EOk (.cons ⟨[], [], v⟩ .nil .nil) := by
  refine ⟨?_, trivial⟩
  rw [if_pos rfl]
  exact ⟨h.ne, h.wv, h.zv, by show v.length ≤ _; omega, rfl, rfl⟩
 refine ⟨hv.1, ?_, ?_, trivial⟩
 ·rw [if_neg img_ne]
  exact ⟨rfl, .inr (.inl ⟨rfl, x, rfl, h.wx, h.zx, by omega⟩), .inr (.inr (.inl ⟨rfl, rfl⟩)), trivial⟩
 ·rw [if_neg (by decide)]
  refine ⟨rfl, .inl ⟨by decide, rfl⟩, .inr (.inl ⟨rfl, ⟨.inl rfl, fun _ => rfl, trivial⟩, by show 0 < 1; decide, fun hh => ?_⟩), hv⟩
  rcases hh with hh | hh | hh
  ·exact em_ne hh
  ·exact hh
  ·exact hh
theorem el_EOk {n : List UInt8} {k : AT} (hn : n ≠ []) (h1 : AttT n [] k) (h2 : KidT n k) (h3 : EOk k) : EOk (txEl n k) := by
 refine ⟨?_, trivial⟩
 rw [if_neg hn]
 exact ⟨rfl, h1, h2, h3⟩
theorem tx_EOk (h : TxOk v x) : ∀ i, EOk (txT v x i) := by
 have hl := line_EOk h
 have h1 := line_line v x
 have h2 := line_img v x
 have wli : T.wordsN [] [108, 105] = [[108, 105]] := by decide +kernel
 have wtb : T.wordsN [] [116, 98, 111, 100, 121] = [[116, 98, 111, 100, 121]] := by decide +kernel
 have wtr : T.wordsN [] [116, 114] = [[116, 114]] := by decide +kernel
 have wtd : T.wordsN [] [116, 100, 32, 116, 104] = [[116, 100], [116, 104]] := by decide +kernel
 have hth := el_EOk (n := [116, 104]) (by decide) (.inl ⟨by decide, rfl⟩) (.inr (.inr (.inr (.inr (.inr (.inr (.inr ⟨by decide, h1⟩))))))) hl
 have htr := el_EOk (n := [116, 114]) (k := txEl [116, 104] (txLine v x)) (by decide) (.inl ⟨by decide, rfl⟩) (.inr (.inr (.inr (.inr (.inr (.inr (.inl ⟨rfl, by rw [wtd]; exact ⟨by decide, trivial⟩, by show 0 < 1; decide⟩))))))) hth
 have htb := el_EOk (n := [116, 98, 111, 100, 121]) (k := txEl [116, 114] (txEl [116, 104] (txLine v x))) (by decide) (.inl ⟨by decide, rfl⟩) (.inr (.inr (.inr (.inr (.inr (.inl ⟨rfl, by rw [wtr]; exact ⟨by decide, trivial⟩, by show 0 < 1; decide⟩)))))) htr
 have hli := el_EOk (n := [108, 105]) (by decide) (.inl ⟨by decide, rfl⟩) (.inr (.inr (.inr (.inr (.inr (.inr (.inr ⟨by decide, h1⟩))))))) hl
 intro i
 match i with
 | 0 => exact el_EOk (by decide) (.inl ⟨by decide, rfl⟩) (.inl ⟨by decide, h1, h2⟩) hl
 | 1 => exact el_EOk (by decide) (.inl ⟨by decide, rfl⟩) (.inl ⟨by decide, h1, h2⟩) hl
 | 2 => exact el_EOk (by decide) (.inl ⟨by decide, rfl⟩) (.inl ⟨by decide, h1, h2⟩) hl
 | 3 => exact el_EOk (by decide) (.inl ⟨by decide, rfl⟩) (.inr (.inr (.inr (.inl ⟨rfl, by rw [wli]; exact ⟨by decide, trivial⟩, by show 0 < 1; decide⟩)))) hli
 | n + 4 => exact el_EOk (by decide) (.inr (.inr ⟨rfl, rfl, _, _, _, _, rfl, rfl⟩)) (.inr (.inr (.inr (.inr (.inl ⟨rfl, by rw [wtb]; exact ⟨by decide, trivial⟩, rfl⟩))))) htb
theorem line_wt (h : TxOk v x) : (txLine v x).wt ≤ 4000 := by
 have hl := h.ln
 have e1 : T.nImg.length = 3 := rfl
 have e2 : wAlt.length = 3 := rfl
 have e3 : wSrc.length = 3 := rfl
 have e4 : addr.length = 9 := rfl
 have e5 : wEm.length = 2 := rfl
 simp only [txLine, AT.wt, T.attrsN, e1, e2, e3, e4, e5, List.length_nil]
 omega
theorem el_wt (n : List UInt8) (k : AT) : (txEl n k).wt = 2 * n.length + 10 + k.wt := by
 simp only [txEl, AT.wt, T.attrsN, List.length_nil]; omega
theorem tx_wt (h : TxOk v x) : ∀ i, (txT v x i).wt ≤ 5000 := by
 have hl := line_wt h
 intro i
 match i with
 | 0 | 1 | 2 => simp only [txT, el_wt, List.length_cons, List.length_nil]; omega
 | 3 => simp only [txT, el_wt, List.length_cons, List.length_nil]; omega
 | n + 4 => simp only [txT, el_wt, List.length_cons, List.length_nil]; omega
theorem tx_size : ∀ i, (txT v x i).size ≤ 40 := by
 intro i
 match i with
 | 0 | 1 | 2 => exact (by decide : 5 ≤ 40)
 | 3 => exact (by decide : 6 ≤ 40)
 | n + 4 => exact (by decide : 8 ≤ 40)
theorem tx_deep : ∀ i, T.deepA (txT v x i) ≤ 200 := by
 intro i
 match i with
 | 0 | 1 | 2 => exact (by decide : 3 ≤ 200)
 | 3 => exact (by decide : 4 ≤ 200)
 | n + 4 => exact (by decide : 6 ≤ 200)
theorem tx_of : ∀ i, T.ofA T.tBlk (txT v x i) := by
 intro i
 match i with
 | 0 | 1 | 2 => exact ⟨by decide, trivial⟩
 | 3 => exact ⟨by decide, trivial⟩
 | n + 4 => exact ⟨by decide, trivial⟩
theorem line_SA (h : TxOk v x) : D.SA (txLine v x) := by
 have hl := h.ln
 have ht : v ≠ [] ∧ 0 ∉ v ∧ v.length ≤ 1000000 := ⟨h.ne, h.zv, by omega⟩
 refine ⟨by rw [if_pos rfl]; exact ht, ?_, ?_, trivial⟩
 ·rw [if_neg img_ne]
  refine ⟨⟨fun a ha => ?_, (by decide : ([wAlt, wSrc] : List (List UInt8)).Nodup), (by decide : 2 ≤ 100000)⟩, T.kids_leaf (by decide : T.nImg ∈ ([[104, 114], [98, 114], [105, 109, 103]] : List (List UInt8))) rfl, trivial⟩
  simp only [List.mem_cons, List.not_mem_nil, or_false] at ha
  rcases ha with rfl | rfl
  ·exact ⟨(by decide : wAlt ≠ []), (by decide : ∀ c ∈ wAlt, T.lowC c), h.zx, by show x.length ≤ _; omega⟩
  ·exact ⟨by decide, by decide, by decide, by decide⟩
 ·rw [if_neg (by decide)]
  refine ⟨⟨fun a ha => (by cases ha), by decide, by decide⟩, T.kids_inl (by decide) ⟨⟨.inl rfl, fun _ => rfl, trivial⟩, fun hh => ?_⟩, by rw [if_pos rfl]; exact ht, trivial⟩
  rcases hh with hh | hh | hh
  ·exact em_ne hh
  ·exact hh
  ·exact hh
theorem at_nil : T.AtOk [] := ⟨fun a ha => (by cases ha), by decide, by decide⟩
theorem el_SA {n : List UInt8} {k : AT} (hn : n ≠ []) (h1 : T.kidsA n k) (h2 : D.SA k) : D.SA (txEl n k) := by
 refine ⟨?_, trivial⟩
 rw [if_neg hn]
 exact ⟨at_nil, h1, h2⟩
theorem tx_SA (h : TxOk v x) : ∀ i, D.SA (txT v x i) := by
 have hl := line_SA h
 have h1 := line_line v x
 have hth : D.SA (txEl [116, 104] (txLine v x)) := el_SA (by decide) (T.kids_cell (by decide) (.inr h1)) hl
 have htr : D.SA (txEl [116, 114] (txEl [116, 104] (txLine v x))) := el_SA (by decide) (T.kids_tr (by decide) ⟨by decide, trivial⟩) hth
 have htb : D.SA (txEl [116, 98, 111, 100, 121] (txEl [116, 114] (txEl [116, 104] (txLine v x)))) := el_SA (by decide) (T.kids_bod (by decide) ⟨by decide, trivial⟩) htr
 have hli : D.SA (txEl [108, 105] (txLine v x)) := el_SA (by decide) (T.kids_cell (by decide) (.inr h1)) hl
 intro i
 match i with
 | 0 => exact el_SA (by decide) (T.kids_line (by decide) h1) hl
 | 1 => exact el_SA (by decide) (T.kids_line (by decide) h1) hl
 | 2 => exact el_SA (by decide) (T.kids_line (by decide) h1) hl
 | 3 => exact el_SA (by decide) (T.kids_lst (by decide) ⟨by decide, trivial⟩) hli
 | n + 4 => exact el_SA (by decide) (T.kids_tab (by decide) ⟨by decide, trivial⟩) htb
theorem line_Wo (h : TxOk v x) : U.Wo (txLine v x) := by
 have hn : U.WoA [] := fun a ha => by cases ha
 have hn0 : U.lowN [] := by decide
 have hni : U.lowN T.nImg := by decide
 refine ⟨hn0, hn, h.wv, trivial, hni, fun a ha => ?_, rfl, trivial, by decide, hn, rfl, ⟨hn0, hn, h.wv, trivial, trivial⟩, trivial⟩
 simp only [List.mem_cons, List.not_mem_nil, or_false] at ha
 rcases ha with rfl | rfl
 ·exact ⟨by show U.lowN wAlt; decide, h.wx⟩
 ·exact ⟨by decide, by decide +kernel⟩
theorem el_Wo {n : List UInt8} {k : AT} (hn : U.lowN n) (h : U.Wo k) : U.Wo (txEl n k) := ⟨hn, fun a ha => (by cases ha), rfl, h, trivial⟩
theorem tx_Wo (h : TxOk v x) : ∀ i, U.Wo (txT v x i) := by
 have hl := line_Wo h
 intro i
 match i with
 | 0 | 1 | 2 => exact el_Wo (by decide) hl
 | 3 => exact el_Wo (by decide) (el_Wo (by decide) hl)
 | n + 4 => exact el_Wo (by decide) (el_Wo (by decide) (el_Wo (by decide) (el_Wo (by decide) hl)))
end
end Go.Proofs.YtbcmiijollpgeaaGreat.J
namespace Go.Proofs.YtbcmiijollpgeaaGreat.D
open Go Go.Z Go.Proofs
theorem few_bare : ∀ a : T.AT, SA a → FewT (bareN a)
 | .nil, _ => trivial
 | .cons x k r, ⟨h1, h2⟩ => by
  have ih := few_bare r h2
  by_cases hx : x.name = []
  ·rw [bare_text hx]
   exact ⟨Nat.zero_le _, trivial, ih⟩
  ·rw [bare_elem hx]
   rw [if_neg hx] at h1
   refine ⟨?_, few_bare k h1.2.2, ih⟩
   show (encT x.attrs).length ≤ _
   rw [encT_len]
   have := h1.1.ln
   omega
theorem bare_size : ∀ a : T.AT, (bareN a).size ≤ a.size
 | .nil => Nat.le_refl _
 | .cons x k r => by
  have ih := bare_size r
  by_cases hx : x.name = []
  ·rw [bare_text hx]
   simp only [NT.size, T.AT.size]; omega
  ·have := bare_size k
   rw [bare_elem hx]
   simp only [NT.size, T.AT.size]; omega
end Go.Proofs.YtbcmiijollpgeaaGreat.D
namespace Go.Proofs.YtbcmiijollpgeaaGreat.J
open Go Go.Z Go.Proofs
open T (big AT)
theorem el_new {w w' : World} {b : Nat} {n : List UInt8} {K : Value} {k : AT} (hN : New w w' b 43 (T.encM [⟨n, T.nS, [], T.nS, K⟩])) (hK : TreeZ w K k) : TreeZ w' (.slice (some ⟨b, 0, none⟩) 1 1) (txEl n k) :=
 treeZ_new hN (rowsZ_cons (T.AttrS.nil _) hK rowsZ_nil)
theorem PrintTexts_walk (a b : ByteArray) (kk : Int) (w : World) (ha : a.size ≤ 140737488351232) (hb : b.size ≤ 140737488351232) : Calls Tryz.prog 5 #[.string a, .string b, .int .i64 kk] w fun e w' => e = .returned (.bool true) ∧ RowKit.Below w.heap.size w w' := by
 obtain ⟨v, rfl⟩ := bs_ex a
 obtain ⟨x, rfl⟩ := bs_ex b
 rw [bs_size] at ha hb
 show Calls Tryz.prog 5 [Value.string (bs v), .string (bs x), .int .i64 kk].toArray w _
 have hbig : big = 1000000000000 := rfl
 refine zCz 103 Tryz.func5 ?_
 refine zS (zR (zP rfl (zN (zK (zS (zS (zR ?_)))))))
 refine zCl rfl T.known_calls ?_
 rintro _ w1 ⟨rfl, hC1⟩
 refine ⟨_, rfl, ?_⟩
 by_cases hv0 : v = []
 ·refine zP rfl (zN (zK (zF rfl (zA (zK (zS (zS (zR (zP rfl ?_)))))))))
  refine zEq rfl rfl (fun _ => ?_) (fun hc => absurd (by assumption) hc)
  refine zP rfl (zP rfl (zJ rfl (zP rfl (zJ rfl (zJ rfl (zJ rfl (zP rfl (zP rfl (zP rfl (zJ rfl (zP rfl (zP rfl (zP rfl (zP rfl (zJ rfl (zP rfl (zP rfl (zP rfl (zP rfl (zP rfl (zJ rfl (zJ rfl (zJ rfl (zP rfl (zN (zK (zT rfl (zS (zR (zP rfl (zN (zK (zE (zQ ?_))))))))))))))))))))))))))))))))))
  exact zk_ret1 (.inr rfl) rfl rfl ⟨rfl, hC1.below⟩
 by_cases hlen : 300 < v.length + x.length
 ·refine zP rfl (zN (zK (zF rfl (zA (zK (zS (zS (zR (zP rfl ?_)))))))))
  refine zEq rfl rfl (fun hc => absurd hc (by assumption)) (fun _ => ?_)
  refine zP rfl (zP rfl (zLL rfl (zP rfl (zLL rfl (zAd rfl rfl (zCT rfl rfl rfl (zP rfl (zP rfl (zP rfl (zJ rfl (zP rfl (zP rfl (zP rfl (zP rfl (zJ rfl (zP rfl (zP rfl (zP rfl (zP rfl (zP rfl (zJ rfl (zJ rfl (zJ rfl (zP rfl (zN (zK (zT rfl (zS (zR (zP rfl (zN (zK (zE (zQ ?_))))))))))))))))))))))))))))))))))
  exact zk_ret1 (.inr rfl) rfl rfl ⟨rfl, hC1.below⟩
 refine zP rfl (zN (zK (zF rfl (zA (zK (zS (zS (zR (zP rfl ?_)))))))))
 refine zEq rfl rfl (fun hc => absurd hc (by assumption)) (fun _ => ?_)
 refine zP rfl (zP rfl (zLL rfl (zP rfl (zLL rfl (zAd rfl rfl (zCF rfl rfl rfl (zP rfl (zP rfl (zP rfl ?_)))))))))
 refine zCl rfl (U.wholeR_calls (l := v) (by omega)) ?_
 rintro _ u ⟨rfl, hu⟩
 obtain rfl := hu.symm
 refine ⟨_, rfl, ?_⟩
 cases hwv : U.whole v
 ·refine zP rfl (zP rfl (zP rfl (zP rfl (zJ rfl (zP rfl (zP rfl (zP rfl (zP rfl (zP rfl (zJ rfl (zJ rfl (zJ rfl (zP rfl (zN (zK (zT rfl (zS (zR (zP rfl (zN (zK (zE (zQ ?_)))))))))))))))))))))))
  exact zk_ret1 (.inr rfl) rfl rfl ⟨rfl, hC1.below⟩
 refine zP rfl (zP rfl (zP rfl (zP rfl ?_)))
 refine zCl rfl (U.wholeR_calls (l := x) (by omega)) ?_
 rintro _ u ⟨rfl, hu⟩
 obtain rfl := hu.symm
 refine ⟨_, rfl, ?_⟩
 cases hwx : U.whole x
 ·refine zP rfl (zP rfl (zP rfl (zP rfl (zP rfl (zJ rfl (zJ rfl (zJ rfl (zP rfl (zN (zK (zT rfl (zS (zR (zP rfl (zN (zK (zE (zQ ?_))))))))))))))))))
  exact zk_ret1 (.inr rfl) rfl rfl ⟨rfl, hC1.below⟩
 refine zP rfl (zP rfl (zP rfl (zP rfl (zP rfl ?_))))
 refine z_catL (want_L rfl) (by decide) rfl rfl (by omega) ?_
 refine zCl rfl (index_calls (v ++ x) 0 (by rw [List.length_append]; omega)) ?_
 rintro _ u ⟨⟨k0, rfl, h1, h2, h3⟩, hu⟩
 obtain rfl := hu.symm
 refine ⟨_, rfl, ?_⟩
 by_cases hk0 : 0 ≤ k0
 ·refine zCT rfl rfl rfl (zP rfl (zN (zK (zT rfl (zS (zR (zP rfl (zN (zK (zE (zQ ?_)))))))))))
  exact zk_ret1 (.inr rfl) rfl rfl ⟨rfl, hC1.below⟩
 have hz : 0 ∉ v ++ x := fun h => hk0 (h3.2 h)
 have hok : TxOk v x := ⟨hv0, hwv, hwx, fun h => hz (List.mem_append_left _ h), fun h => hz (List.mem_append_right _ h), by omega⟩
 refine zCF rfl rfl rfl (zP rfl (zN (zK (zF rfl (zA (zK (zS (zR (zP rfl ?_)))))))))
 refine z_buildE #[.string (bs []), T.nS, .string (bs v), T.nS, T.nS] (want_L rfl) (by decide) rfl (by kernel_rfl) ?_
 refine zAl (fun w2 b7 hN2 => ?_)
 have hb70 : Blk w2 b7 43 [.string ⟨#[]⟩, T.nS, .string ⟨#[]⟩, T.nS, T.nS] := hN2.blk
 refine z_store (want_L rfl) rfl rfl rfl (by assumption) (by first | exact Nat.le_refl _ | simp [Value.cells]) (by simp [Value.cells, Value.oneCell']) (fun w3 hU3 => ?_)
 have hb7 : Blk w3 b7 43 [.string (bs []), T.nS, .string (bs v), T.nS, T.nS] := hU3.blk
 have hC3 : Chg w w3 No := (hC1.no hN2.chg).upd hU3 (by have := hN2.at_; have := hC1.size; omega)
 refine zN (zK (zS (zR (zP rfl ?_))))
 refine z_buildE #[.string (bs wAlt), .string (bs x)] (want_L rfl) (by decide) rfl (by kernel_rfl) ?_
 refine z_buildE #[.string (bs wSrc), .string (bs addr)] (want_L rfl) (by decide) rfl (by kernel_rfl) ?_
 refine z_bsE (T.encA [(wAlt, x), (wSrc, addr)]) (want_L rfl) (by decide) rfl (by decide) (by decide) (by kernel_rfl) (fun w4 b48 hN4 => ?_)
 have hA4 : T.AttrS true w4 (.slice (some ⟨b48, 0, none⟩) 2 2) [(wAlt, x), (wSrc, addr)] := T.att_new hN4
 have hb7 := hb7.no hN4.chg
 refine z_buildE #[.string (bs T.nImg), .slice (some ⟨b48, 0, none⟩) 2 2, .string (bs []), T.nS, T.nS] (want_L rfl) (by decide) rfl (by kernel_rfl) ?_
 refine zAl (fun w5 b8 hN5 => ?_)
 have hb80 : Blk w5 b8 43 [.string ⟨#[]⟩, T.nS, .string ⟨#[]⟩, T.nS, T.nS] := hN5.blk
 have hne : b7 ≠ b8 := by have := hb7.lt; have := hN5.at_; omega
 have hb7 := hb7.no hN5.chg
 have hA5 := hA4.no hN5.chg
 refine z_store (want_L rfl) rfl rfl rfl (by assumption) (by first | exact Nat.le_refl _ | simp [Value.cells]) (by simp [Value.cells, Value.oneCell']) (fun w6 hU6 => ?_)
 have hb8 : Blk w6 b8 43 [.string (bs T.nImg), .slice (some ⟨b48, 0, none⟩) 2 2, .string (bs []), T.nS, T.nS] := hU6.blk
 have hC5 : Chg w w5 No := (hC3.no hN4.chg).no hN5.chg
 have hC46 : Chg w4 w6 No := hN5.chg.upd hU6 (hN5.ge (Chg.refl _ No))
 have hC6 : Chg w w6 No := (hC3.no hN4.chg).no hC46
 have hA6 := hA4.no hC46
 have hb7 := hb7.chg hU6.chg (fun h => hne h)
 refine zN (zK (zS (zR ?_)))
 iterate 3 (refine zlA rfl ?_)
 refine z_bsE (T.encM [⟨[], T.nS, v, T.nS, T.nS⟩]) (want_L rfl) (by decide) rfl (by decide) (by decide) (by kernel_rfl) (fun w7 b53 hN7 => ?_)
 have hv7 : TreeZ w7 (.slice (some ⟨b53, 0, none⟩) 1 1) (.cons ⟨[], [], v⟩ .nil .nil) := treeZ_new hN7 (rowsZ_cons (T.AttrS.nil _) TreeZ.nil rowsZ_nil)
 have hA7 := hA6.no hN7.chg
 refine z_buildE #[.string (bs wEm), T.nS, .string (bs []), T.nS, .slice (some ⟨b53, 0, none⟩) 1 1] (want_L rfl) (by decide) rfl (by kernel_rfl) ?_
 refine z_bsE (T.encM [⟨[], T.nS, v, T.nS, T.nS⟩, ⟨T.nImg, .slice (some ⟨b48, 0, none⟩) 2 2, [], T.nS, T.nS⟩, ⟨wEm, T.nS, [], T.nS, .slice (some ⟨b53, 0, none⟩) 1 1⟩]) (want_L rfl) (by decide) rfl (by decide) (by decide) (by kernel_rfl) (fun w8 b55 hN8 => ?_)
 have hl : TreeZ w8 (.slice (some ⟨b55, 0, none⟩) 3 3) (txLine v x) := treeZ_new hN8 (rowsZ_cons (T.AttrS.nil _) TreeZ.nil (rowsZ_cons hA7 TreeZ.nil (rowsZ_cons (T.AttrS.nil _) hv7 rowsZ_nil)))
 have hC8 : Chg w w8 No := (hC6.no hN7.chg).no hN8.chg
 refine zP rfl (zN (zK (zS (zR (zP rfl ?_)))))
 refine z_buildE #[.string (bs [112]), T.nS, .string (bs []), T.nS, .slice (some ⟨b55, 0, none⟩) 3 3] (want_L rfl) (by decide) rfl (by kernel_rfl) ?_
 refine z_bsE (T.encM [⟨[112], T.nS, [], T.nS, .slice (some ⟨b55, 0, none⟩) 3 3⟩]) (want_L rfl) (by decide) rfl (by decide) (by decide) (by kernel_rfl) (fun w9 c0 hN9 => ?_)
 have t0 := el_new hN9 hl
 have hl := hl.no hN9.chg
 have hC8 := hC8.no hN9.chg
 refine zP rfl ?_
 refine z_buildE #[.string (bs [112, 114, 101]), T.nS, .string (bs []), T.nS, .slice (some ⟨b55, 0, none⟩) 3 3] (want_L rfl) (by decide) rfl (by kernel_rfl) ?_
 refine z_bsE (T.encM [⟨[112, 114, 101], T.nS, [], T.nS, .slice (some ⟨b55, 0, none⟩) 3 3⟩]) (want_L rfl) (by decide) rfl (by decide) (by decide) (by kernel_rfl) (fun w10 c1 hN10 => ?_)
 have t1 := el_new hN10 hl
 have hl := hl.no hN10.chg
 have t0 := t0.no hN10.chg
 have hC8 := hC8.no hN10.chg
 refine zP rfl ?_
 refine z_buildE #[.string (bs [104, 50]), T.nS, .string (bs []), T.nS, .slice (some ⟨b55, 0, none⟩) 3 3] (want_L rfl) (by decide) rfl (by kernel_rfl) ?_
 refine z_bsE (T.encM [⟨[104, 50], T.nS, [], T.nS, .slice (some ⟨b55, 0, none⟩) 3 3⟩]) (want_L rfl) (by decide) rfl (by decide) (by decide) (by kernel_rfl) (fun w11 c2 hN11 => ?_)
 have t2 := el_new hN11 hl
 have hl := hl.no hN11.chg
 have t0 := t0.no hN11.chg
 have t1 := t1.no hN11.chg
 have hC8 := hC8.no hN11.chg
 refine zP rfl ?_
 refine z_buildE #[.string (bs [108, 105]), T.nS, .string (bs []), T.nS, .slice (some ⟨b55, 0, none⟩) 3 3] (want_L rfl) (by decide) rfl (by kernel_rfl) ?_
 refine z_bsE (T.encM [⟨[108, 105], T.nS, [], T.nS, .slice (some ⟨b55, 0, none⟩) 3 3⟩]) (want_L rfl) (by decide) rfl (by decide) (by decide) (by kernel_rfl) (fun w12 d3 hN12 => ?_)
 have s3 := el_new hN12 hl
 have hl := hl.no hN12.chg
 have t0 := t0.no hN12.chg
 have t1 := t1.no hN12.chg
 have t2 := t2.no hN12.chg
 have hC8 := hC8.no hN12.chg
 refine z_buildE #[.string (bs [117, 108]), T.nS, .string (bs []), T.nS, .slice (some ⟨d3, 0, none⟩) 1 1] (want_L rfl) (by decide) rfl (by kernel_rfl) ?_
 refine z_bsE (T.encM [⟨[117, 108], T.nS, [], T.nS, .slice (some ⟨d3, 0, none⟩) 1 1⟩]) (want_L rfl) (by decide) rfl (by decide) (by decide) (by kernel_rfl) (fun w13 c3 hN13 => ?_)
 have t3 := el_new hN13 s3
 have hl := hl.no hN13.chg
 have t0 := t0.no hN13.chg
 have t1 := t1.no hN13.chg
 have t2 := t2.no hN13.chg
 have hC8 := hC8.no hN13.chg
 refine zP rfl ?_
 refine z_buildE #[.string (bs [116, 104]), T.nS, .string (bs []), T.nS, .slice (some ⟨b55, 0, none⟩) 3 3] (want_L rfl) (by decide) rfl (by kernel_rfl) ?_
 refine z_bsE (T.encM [⟨[116, 104], T.nS, [], T.nS, .slice (some ⟨b55, 0, none⟩) 3 3⟩]) (want_L rfl) (by decide) rfl (by decide) (by decide) (by kernel_rfl) (fun w14 d4 hN14 => ?_)
 have s4 := el_new hN14 hl
 have hl := hl.no hN14.chg
 have t0 := t0.no hN14.chg
 have t1 := t1.no hN14.chg
 have t2 := t2.no hN14.chg
 have t3 := t3.no hN14.chg
 have hC8 := hC8.no hN14.chg
 refine z_buildE #[.string (bs [116, 114]), T.nS, .string (bs []), T.nS, .slice (some ⟨d4, 0, none⟩) 1 1] (want_L rfl) (by decide) rfl (by kernel_rfl) ?_
 refine z_bsE (T.encM [⟨[116, 114], T.nS, [], T.nS, .slice (some ⟨d4, 0, none⟩) 1 1⟩]) (want_L rfl) (by decide) rfl (by decide) (by decide) (by kernel_rfl) (fun w15 d5 hN15 => ?_)
 have s5 := el_new hN15 s4
 have hl := hl.no hN15.chg
 have t0 := t0.no hN15.chg
 have t1 := t1.no hN15.chg
 have t2 := t2.no hN15.chg
 have t3 := t3.no hN15.chg
 have hC8 := hC8.no hN15.chg
 refine z_buildE #[.string (bs [116, 98, 111, 100, 121]), T.nS, .string (bs []), T.nS, .slice (some ⟨d5, 0, none⟩) 1 1] (want_L rfl) (by decide) rfl (by kernel_rfl) ?_
 refine z_bsE (T.encM [⟨[116, 98, 111, 100, 121], T.nS, [], T.nS, .slice (some ⟨d5, 0, none⟩) 1 1⟩]) (want_L rfl) (by decide) rfl (by decide) (by decide) (by kernel_rfl) (fun w16 d6 hN16 => ?_)
 have s6 := el_new hN16 s5
 have hl := hl.no hN16.chg
 have t0 := t0.no hN16.chg
 have t1 := t1.no hN16.chg
 have t2 := t2.no hN16.chg
 have t3 := t3.no hN16.chg
 have hC8 := hC8.no hN16.chg
 refine z_buildE #[.string (bs [116, 97, 98, 108, 101]), T.nS, .string (bs []), T.nS, .slice (some ⟨d6, 0, none⟩) 1 1] (want_L rfl) (by decide) rfl (by kernel_rfl) ?_
 refine z_bsE (T.encM [⟨[116, 97, 98, 108, 101], T.nS, [], T.nS, .slice (some ⟨d6, 0, none⟩) 1 1⟩]) (want_L rfl) (by decide) rfl (by decide) (by decide) (by kernel_rfl) (fun w17 c4 hN17 => ?_)
 have t4 := el_new hN17 s6
 have hl := hl.no hN17.chg
 have t0 := t0.no hN17.chg
 have t1 := t1.no hN17.chg
 have t2 := t2.no hN17.chg
 have t3 := t3.no hN17.chg
 have hC8 := hC8.no hN17.chg
 refine z_bsE [.slice (some ⟨c0, 0, none⟩) 1 1, .slice (some ⟨c1, 0, none⟩) 1 1, .slice (some ⟨c2, 0, none⟩) 1 1, .slice (some ⟨c3, 0, none⟩) 1 1, .slice (some ⟨c4, 0, none⟩) 1 1] (want_L rfl) (by decide) rfl (by decide) (by decide) (by kernel_rfl) (fun wa ba hNa => ?_)
 have t0 := t0.no hNa.chg
 have t1 := t1.no hNa.chg
 have t2 := t2.no hNa.chg
 have t3 := t3.no hNa.chg
 have t4 := t4.no hNa.chg
 have hCa := hC8.no hNa.chg
 refine zP rfl (zN (zK (zS (zR (zP rfl (zP rfl ?_))))))
 refine zCl rfl (T.within_calls (n := 5) (by decide) (by decide)) ?_
 rintro _ u ⟨rfl, hu⟩
 obtain rfl := hu.symm
 refine ⟨_, rfl, ?_⟩
 obtain ⟨i, hi⟩ := Int.eq_ofNat_of_zero_le (show 0 ≤ kk % ((5 : Nat) : Int) by omega)
 have hi5 : i < 5 := by omega
 rw [hi]
 obtain ⟨va, hva, hT⟩ : ∃ va, [Value.slice (some ⟨c0, 0, none⟩) 1 1, Value.slice (some ⟨c1, 0, none⟩) 1 1, Value.slice (some ⟨c2, 0, none⟩) 1 1, Value.slice (some ⟨c3, 0, none⟩) 1 1, Value.slice (some ⟨c4, 0, none⟩) 1 1][i]? = some va ∧ TreeZ wa va (txT v x i) := by
  match i, hi5 with
  | 0, _ => exact ⟨_, rfl, t0⟩
  | 1, _ => exact ⟨_, rfl, t1⟩
  | 2, _ => exact ⟨_, rfl, t2⟩
  | 3, _ => exact ⟨_, rfl, t3⟩
  | 4, _ => exact ⟨_, rfl, t4⟩
 have ga : wa.cell? ⟨ba, 0 + i, none⟩ = some va := by rw [Nat.zero_add]; exact (hNa.blk.cell i).trans hva
 clear t0 t1 t2 t3 t4 hva
 have hwt := tx_wt hok i
 have hsz := tx_size (v := v) (x := x) i
 have htl := T.text_len (txT v x i)
 have hSA := tx_SA hok i
 have hF := D.few_bare _ hSA
 have hbz := D.bare_size (txT v x i)
 obtain ⟨t, ht⟩ : ∃ t, t = txT v x i := ⟨_, rfl⟩
 have hE := tx_EOk hok i
 have hO := tx_of (v := v) (x := x) i
 have hWo := tx_Wo hok i
 have hDp := tx_deep (v := v) (x := x) i
 rw [← ht] at hwt hsz htl hSA hF hbz hT hE hO hWo hDp
 obtain ⟨Aa, ca, rfl, _⟩ := hT.tree.form
 refine zIa rfl rfl (zL1 rfl (cell_at ga (by omega)) (zP rfl (zN (zK (zS (zR (zP rfl ?_)))))))
 refine zCl rfl (T.text_calls hT.tree (by omega)) ?_
 rintro _ y1 ⟨rfl, hD1⟩
 refine ⟨_, rfl, ?_⟩
 refine zCl rfl (D.pageA_calls t hO hSA hDp hWo (by omega)) ?_
 rintro _ y2 ⟨vm, rfl, hM, hMz, hD2⟩
 refine ⟨_, rfl, ?_⟩
 obtain ⟨Am, cm, rfl, _⟩ := hM.form
 have hT2 := (hT.no hD1).no hD2
 refine zP rfl (zP rfl (zP rfl (zP rfl (zP rfl (zN (zK (zS (zR (zP rfl ?_)))))))))
 refine zCl rfl (right_calls t hsz (by omega) hT2 hO hE) ?_
 rintro _ y3 ⟨rfl, hD3⟩
 refine ⟨_, rfl, ?_⟩
 refine zP rfl (zP rfl (zCT rfl rfl rfl (zP rfl (zP rfl (zP rfl (zP rfl ?_))))))
 refine zCl rfl (D.bareC_calls t.size (hT2.no hD3).tree' (Nat.le_refl _) (by omega)) ?_
 rintro _ y4 ⟨vb, rfl, hB, hD4⟩
 refine ⟨_, rfl, ?_⟩
 obtain ⟨Ab, cb, rfl, _⟩ := hB.at'.form
 refine zCl rfl (D.sameR_calls (D.bareN t).size ((hM.no hD3).no hD4) hB.at' hF hF (Nat.le_refl _) hMz) ?_
 rintro _ y5 ⟨q, rfl, hq, hD5⟩
 refine ⟨_, rfl, ?_⟩
 obtain rfl : q = true := hq.2 rfl
 refine zP rfl (zP rfl (zN (zK (zE ?_))))
 exact zk_ret1 (.inr rfl) rfl rfl ⟨rfl, (((((hCa.no hD1).no hD2).no hD3).no hD4).no hD5).below⟩
end Go.Proofs.YtbcmiijollpgeaaGreat.J
