import Derived.Test.YtbcmiijollpgeaaPDrawK
/- A table of a tape: the walk. -/
namespace Go.Proofs.Ytbcmiijollpgeaa.T
open Go Go.Z Go.Proofs
set_option linter.unusedVariables false
def lTd : List (List UInt8) := [[116, 100], [116, 100], [116, 104]]
theorem lTd_nm : ∀ x ∈ lTd, x ∈ lNm := by decide
/-- kids that a row may take -/
def KidOk (w : World) (Bz N : Nat) (vC K : Value) (kt : AT) : Prop := TreeOk w (fun b => Bz ≤ b ∧ vC.ownBlock ≠ some b) K kt ∧ kt.ok ∧ kt.size ≤ N
theorem KidOk.tp {w w' : World} {Bz N B bt : Nat} {vC K : Value} {kt : AT} (h : KidOk w Bz N vC K kt) (hT : Tp w B bt) (hc : Chg w w' (· = bt)) : KidOk w' Bz N vC K kt := ⟨h.1.tp hT hc, h.2⟩
theorem KidOk.form {w : World} {Bz N : Nat} {vC K : Value} {kt : AT} (h : KidOk w Bz N vC K kt) : ∃ A c, K = .slice A kt.len c ∧ kt.len ≤ c := h.1.form
theorem hdN {nm : List UInt8} (h : nm ∈ lNm) : HdOk ⟨nm, [], []⟩ := ⟨h, by simp, by simp, (by decide : ([] : List UInt8) ∈ lTxs)⟩
/-- an element of a name and kids, as it lies -/
abbrev mE (nm : List UInt8) (K : Value) : MA := ⟨nm, nS, [], nS, K⟩
/-- an append of one such -/
theorem wo_push {n : Nat} {e : Env} {w : World} {Q : Exit → Act → World → Prop} {ops : Array Oper} {K0 : Act → World → Prop} {i : Nat} {d : Tmp} {a : Act} {ty : TypeId} {pos : String} {aft : Array Edge} {g : Option (Nat × Bool)} {s x : Operand} {Bz N : Nat} {vC xv K : Value} {tC kt : AT} {nm : List UInt8}
    (hi : ops[i]? = some ⟨some d, .call { callee := .builtin .append, args := #[s, x], argTypes := #[23, 23] }, ty, pos, aft, g⟩) (hw : Want ops e g) (ha : Ok n e a) (hs : ev e s = some vC) (hx : ev e x = some xv)
    (hO : Out Bz w vC tC) (hr : RdS w 38 5 xv 1 (encM [mE nm K])) (hk : KidOk w Bz N vC K kt) (hB : Bz ≤ w.heap.size) (hl : tC.len ≤ 1000000000)
    (h : ∀ v' w', Out Bz w' v' (tC.snoc ⟨nm, [], []⟩ kt) → Chg w w' (fun j => vC.ownBlock = some j) → K0 (a.put (some d) v') w') : wpOp Try.prog ops (NP Q) i K0 a w := by
  obtain ⟨ms, g1, g2, g3⟩ := hO
  have hlen := Out.len Bz g3
  obtain ⟨v', w', hr1, hO', hC', hr'⟩ := append_run (P := Try.prog) (n := n) (d := d) (ty := ty) (pos := pos) (aft := aft) (g := g) (t := 23) (by rfl) (by decide) hs hx g1 hr (by omega) (by omega)
  exact wo_run hi hw rfl ha hr1 (h v' w' (Out.push g1 g2 g3 ⟨rfl, AtS.nil _, rfl, isSl_nil⟩ hk.1 hB (Chg.refl _ _) hO' hC' hr') hC')
theorem KidOk.own {w w' : World} {Bz N Bz' : Nat} {vC K : Value} {tC kt : AT} (h : KidOk w Bz N vC K kt) (hO : Out Bz' w vC tC) (hc : Chg w w' (fun j => vC.ownBlock = some j)) : KidOk w' Bz N vC K kt := by
  obtain ⟨ms, g1, _, _⟩ := hO
  exact ⟨h.1.chg hc (fun b cells _ hq he => hq.2 he) (fun b cells hb he => g1.ne he hb (by decide) rfl), h.2⟩
theorem Out.blk {w w' : World} {Bz : Nat} {vC : Value} {tC : AT} (hO : Out Bz w vC tC) (hc : Chg w w' (fun j => vC.ownBlock = some j)) {b : Nat} {cs : List Value} {ty : Nat} (h : Blk w b ty cs) (ht : ty ≠ 38 := by decide) : Blk w' b ty cs := by
  obtain ⟨ms, g1, _, _⟩ := hO
  exact h.chg hc (fun he => g1.ne he h (Ne.symm ht) rfl)
/-- what the parts of the region tell -/
def GT (bt b7 : Nat) (lv : Int) (Bz N : Nat) (vC : Value) (tC : AT) : Nat → Value → World → Prop
  | 0, v, w => v = .pointer (some ⟨b7, 4, none⟩)
  | 1, v, w => v = vC
  | 2, v, w => ∃ b, v = .slice (some ⟨b, 0, none⟩) 3 3 ∧ Blk w b 9 (strs lTd)
  | 3, v, w => v = .pointer (some ⟨bt, 0, none⟩)
  | 4, v, w => ∃ k : Nat, k < 3 ∧ v = .int .i64 k
  | 5, v, w => ∃ b k, k < 3 ∧ v = .pointer (some ⟨b, k, none⟩) ∧ Blk w b 9 (strs lTd)
  | 6, v, w => ∃ s ∈ lTd, v = .string (bs s)
  | 7, v, w => v = .pointer (some ⟨bt, 0, none⟩)
  | 8, v, w => v = .int .i64 lv
  | 9, v, w => v = .int .i64 (lv + 2)
  | 10, v, w => ∃ kt, KidOk w Bz N vC v kt
  | 11, v, w => ∃ s ∈ lTd, ∃ K kt, v = .agg #[.string (bs s), nS, .string (bs []), nS, K] ∧ KidOk w Bz N vC K kt
  | 12, v, w => ∃ s ∈ lTd, ∃ K kt, RdS w 38 5 v 1 (encM [mE s K]) ∧ KidOk w Bz N vC K kt
  | 13, v, w => ∃ s ∈ lTd, ∃ kt, Out Bz w v (tC.snoc ⟨s, [], []⟩ kt) ∧ kt.ok ∧ kt.size ≤ N
  | 14, v, w => v = .pointer (some ⟨b7, 4, none⟩)
  | _, _, _ => True
theorem GT.tp {bt b7 : Nat} {lv : Int} {Bz N B : Nat} {vC : Value} {tC : AT} {w w' : World} (hT : Tp w B bt) (hc : Chg w w' (· = bt)) : ∀ j u, GT bt b7 lv Bz N vC tC j u w → GT bt b7 lv Bz N vC tC j u w'
  | 0, u, h => h
  | 1, u, h => h
  | 2, u, ⟨b, h1, h2⟩ => ⟨b, h1, keepT hT hc _ _ _ (by decide) h2⟩
  | 3, u, h => h
  | 4, u, h => h
  | 5, u, ⟨b, k, h1, h2, h3⟩ => ⟨b, k, h1, h2, keepT hT hc _ _ _ (by decide) h3⟩
  | 6, u, h => h
  | 7, u, h => h
  | 8, u, h => h
  | 9, u, h => h
  | 10, u, ⟨kt, h⟩ => ⟨kt, h.tp hT hc⟩
  | 11, u, ⟨s, hs, K, kt, h1, h2⟩ => ⟨s, hs, K, kt, h1, h2.tp hT hc⟩
  | 12, u, ⟨s, hs, K, kt, h1, h2⟩ => ⟨s, hs, K, kt, RdS.tp h1 hT hc (by decide), h2.tp hT hc⟩
  | 13, u, ⟨s, hs, kt, h1, h2⟩ => ⟨s, hs, kt, h1.tp hT hc, h2⟩
  | 14, u, h => h
  | _ + 15, u, h => trivial
theorem GT.no {bt b7 : Nat} {lv : Int} {Bz N B : Nat} {vC : Value} {tC : AT} {w w' : World} (hT : Tp w B bt) (hc : Chg w w' No) (j : Nat) (u : Value) (h : GT bt b7 lv Bz N vC tC j u w) : GT bt b7 lv Bz N vC tC j u w' := GT.tp hT (hc.mono (fun _ _ h => h.elim)) j u h
/-- behind the append -/
def killT : Nat → Nat
  | 12 => 13
  | _ => 100
theorem GT.own {bt b7 : Nat} {lv : Int} {Bz N : Nat} {vC : Value} {tC : AT} {w w' : World} (hO : Out Bz w vC tC) (hc : Chg w w' (fun j => vC.ownBlock = some j)) : ∀ j u, j ≠ 13 → killT j ≠ 13 → GT bt b7 lv Bz N vC tC j u w → GT bt b7 lv Bz N vC tC j u w'
  | 0, u, _, _, h => h
  | 1, u, _, _, h => h
  | 2, u, _, _, ⟨b, h1, h2⟩ => ⟨b, h1, hO.blk hc h2⟩
  | 3, u, _, _, h => h
  | 4, u, _, _, h => h
  | 5, u, _, _, ⟨b, k, h1, h2, h3⟩ => ⟨b, k, h1, h2, hO.blk hc h3⟩
  | 6, u, _, _, h => h
  | 7, u, _, _, h => h
  | 8, u, _, _, h => h
  | 9, u, _, _, h => h
  | 10, u, _, _, ⟨kt, h⟩ => ⟨kt, h.own hO hc⟩
  | 11, u, _, _, ⟨s, hs, K, kt, h1, h2⟩ => ⟨s, hs, K, kt, h1, h2.own hO hc⟩
  | 12, u, _, hk, h => absurd rfl hk
  | 13, u, h13, _, h => absurd rfl h13
  | 14, u, _, _, h => h
  | _ + 15, u, _, _, h => trivial
def nTable : List UInt8 := [116, 97, 98, 108, 101]
def nTbody : List UInt8 := [116, 98, 111, 100, 121]
def nTr : List UInt8 := [116, 114]
set_option maxRecDepth 100000 in
set_option maxHeartbeats 16000000 in
theorem table_calls {lv d : Nat} (hl : lv ≤ 100) (hI : ItemC (lv + 2) d) {w : World} {B bt : Nat} {li : Int} (hT0 : Tp w B bt) (hli : li = (lv : Int)) (hd100 : blZ d ≤ 1000000000) : Calls Try.prog 36 [.pointer (some ⟨bt, 0, none⟩), .int .i64 li].toArray w fun e w' =>
    ∃ V la K k, e = .returned (.agg #[.string (bs nTable), V, .string (bs []), nS, K]) ∧ AtS w' V la ∧ la.length ≤ 3 ∧ (∀ a ∈ la, a.1 ∈ lKey ∧ a.2 ∈ lVal) ∧ TreeOk w' (fun b => w.heap.size ≤ b) K k ∧ k.ok ∧ k.size ≤ 8 + 4 * blZ d ∧ Tp w' B bt ∧ Chg w w' (· = bt) := by
  subst hli
  refine calls_zc (n := 55) (f := 36) (fn := Try.f36) Try.func36 rfl rfl (by simp) ?_
  refine zc_seq ?_
  refine zc_region ?_
  refine z_alloc (by first | exact want_none | exact want_L rfl) (by decide) (fun w1 b4 hN1 => ?_)
  have hb41 : Blk w1 b4 38 [.string ⟨#[]⟩, nS, .string ⟨#[]⟩, nS, nS] := hN1.blk
  refine zl_nil ?_
  refine zk_seq ?_
  refine zc_seq ?_
  refine zc_region ?_
  refine z_buildE #[.string (bs nTbody), nS, .string (bs []), nS, nS] (by first | exact want_none | exact want_L rfl) (by decide) rfl (by kernel_rfl) ?_
  refine z_alloc (by first | exact want_none | exact want_L rfl) (by decide) (fun w2 b5 hN2 => ?_)
  have hb52 : Blk w2 b5 38 [.string ⟨#[]⟩, nS, .string ⟨#[]⟩, nS, nS] := hN2.blk
  refine z_store (by first | exact want_none | exact want_L rfl) rfl rfl rfl (by assumption) (by first | exact Nat.le_refl _ | simp [Value.cells]) (by simp [Value.cells, Value.oneCell']) (fun w3 hU3 => ?_)
  have hb53 : Blk w3 b5 38 [.string (bs nTbody), nS, .string (bs []), nS, nS] := hU3.blk
  have hX13 : Chg w1 w3 No := hN2.chg.upd hU3 (hN2.ge (Chg.refl _ No))
  have hX03 : Chg w w3 No := hN1.chg.no hX13
  have hT3 := hT0.no hX03
  have hb4lt : b4 < b5 := by have := hN1.blk.lt; have := hN2.at_; omega
  have hb4ge : w.heap.size ≤ b4 := Nat.le_of_eq hN1.at_.symm
  have hb5lt : b5 < w3.heap.size := hb53.lt
  have hbtlt := hT0.lt
  have hbtge := hT0.ge
  refine zl_nil ?_
  refine zk_seq ?_
  iterate 2 (refine zc_seq ?_)
  refine zc_region ?_
  refine zl_pureL rfl ?_
  refine zl_nil ?_
  refine zk_seq ?_
  refine zc_block ?_
  refine zc_loopW (ι := Nat × Value × AT) (fun q u => [(0, .pointer (some ⟨bt, 0, none⟩)), (1, .int .i64 lv), (4, .pointer (some ⟨b4, 0, none⟩)), (5, .pointer (some ⟨b5, 0, none⟩)), (6, .int .i64 q.1)])
    (fun q u => q.1 ≤ 2 ∧ Out w3.heap.size u q.2.1 q.2.2 ∧ q.2.2.ok ∧ q.2.2.len = q.1 ∧ q.2.2.size ≤ q.1 * (3 + 2 * blZ d) ∧ Blk u b5 38 [.string (bs nTbody), nS, .string (bs []), nS, q.2.1] ∧ Blk u b4 38 [.string ⟨#[]⟩, nS, .string ⟨#[]⟩, nS, nS] ∧ Tp u B bt ∧ Chg w u (· = bt) ∧ w3.heap.size ≤ u.heap.size) (fun q u => 2 - q.1) (0, nS, .nil)
    ⟨by decide, Out.nil, trivial, rfl, by simp [AT.size], hb53, hb41.no hX13, hT3, hX03.mono (fun _ _ h => h.elim), Nat.le_refl _⟩ ?_ ?_
  · exact ⟨rfl, rfl, rfl, rfl, rfl, trivial⟩
  rintro ⟨r, vB, tB⟩ u ⟨hr, hOB, hokB, hlenB, hszB, hb5u, hb4u, hTu, hCu, hw3u⟩
  dsimp only at hr hOB hokB hlenB hszB hb5u hb4u hTu hCu hw3u ⊢
  have hsu := hCu.size
  obtain ⟨AB, cB, hvB, hcB⟩ := hOB.form
  subst hvB
  iterate 2 (refine zc_seq ?_)
  refine zc_region ?_
  iterate 2 (refine zl_pureL rfl ?_)
  refine zl_call (by first | exact want_none | exact want_L rfl) rfl (by decide) rfl (next_calls hTu 2 (by decide) (by decide) rfl) ?_
  rintro _ u1 ⟨⟨nr, hnr, rfl⟩, hT1, hX1⟩
  refine ⟨_, rfl, ?_⟩
  have hOB1 := hOB.tp hTu hX1
  have hb51 := keepT hTu hX1 _ _ _ (by decide) hb5u
  have hb41' := keepT hTu hX1 _ _ _ (by decide) hb4u
  have hC1 : Chg w u1 (· = bt) := hCu.trans hX1 (fun _ _ h => h)
  have hs1 := hX1.size
  by_cases hle : r ≤ nr
  · have hr2 : r ≤ 1 := by omega
    refine z_cmpB (r := true) want_none (by decide) rfl rfl rfl (iff_of_true rfl (by omega)) ?_
    refine zl_nil ?_
    refine zk_seq ?_
    refine zc_true rfl ?_
    refine zc_skip ?_
    refine zk_seq ?_
    refine zc_seq ?_
    refine zc_block ?_
    refine zc_seq ?_
    refine zc_region ?_
    refine z_buildE #[.string (bs nTr), nS, .string (bs []), nS, nS] (by first | exact want_none | exact want_L rfl) (by decide) rfl (by kernel_rfl) ?_
    refine z_alloc (by first | exact want_none | exact want_L rfl) (by decide) (fun u2 b7 hN7 => ?_)
    have hb72 : Blk u2 b7 38 [.string ⟨#[]⟩, nS, .string ⟨#[]⟩, nS, nS] := hN7.blk
    refine z_store (by first | exact want_none | exact want_L rfl) rfl rfl rfl (by assumption) (by first | exact Nat.le_refl _ | simp [Value.cells]) (by simp [Value.cells, Value.oneCell']) (fun u3 hU7 => ?_)
    have hb73 : Blk u3 b7 38 [.string (bs nTr), nS, .string (bs []), nS, nS] := hU7.blk
    have hX13' : Chg u1 u3 No := hN7.chg.upd hU7 (hN7.ge (Chg.refl _ No))
    have hT3' := hT1.no hX13'
    have hb7ge : u1.heap.size ≤ b7 := hN7.ge (Chg.refl _ No)
    have hb7lt : b7 < u3.heap.size := hb73.lt
    refine zl_nil ?_
    refine zk_seq ?_
    iterate 2 (refine zc_seq ?_)
    refine zc_region ?_
    refine zl_pureL rfl ?_
    refine zl_nil ?_
    refine zk_seq ?_
    refine zc_block ?_
    refine zc_loopW (ι := Nat × Value × AT) (fun q z => [(0, .pointer (some ⟨bt, 0, none⟩)), (1, .int .i64 lv), (4, .pointer (some ⟨b4, 0, none⟩)), (5, .pointer (some ⟨b5, 0, none⟩)), (6, .int .i64 r), (7, .pointer (some ⟨b7, 0, none⟩)), (8, .int .i64 q.1)])
      (fun q z => q.1 ≤ 2 ∧ Out u3.heap.size z q.2.1 q.2.2 ∧ q.2.2.ok ∧ q.2.2.len = q.1 ∧ q.2.2.size ≤ q.1 * (1 + blZ d) ∧ Blk z b7 38 [.string (bs nTr), nS, .string (bs []), nS, q.2.1] ∧ Tp z B bt ∧ Chg u1 z (· = bt) ∧ u3.heap.size ≤ z.heap.size) (fun q z => 3 - q.1) (0, nS, .nil)
      ⟨by decide, Out.nil, trivial, rfl, by simp [AT.size], hb73, hT3', hX13'.mono (fun _ _ h => h.elim), Nat.le_refl _⟩ ?_ ?_
    · exact ⟨rfl, rfl, rfl, rfl, rfl, rfl, rfl, trivial⟩
    rintro ⟨c, vC, tC⟩ z ⟨hcc, hOC, hokC, hlenC, hszC, hb7z, hTz, hCz, hsz3⟩
    dsimp only at hcc hOC hokC hlenC hszC hb7z hTz hCz hsz3 ⊢
    obtain ⟨AC, cC, hvC, hcC⟩ := hOC.form
    subst hvC
    iterate 2 (refine zc_seq ?_)
    refine zc_region ?_
    iterate 2 (refine zl_pureL rfl ?_)
    refine zl_call (by first | exact want_none | exact want_L rfl) rfl (by decide) rfl (next_calls hTz 2 (by decide) (by decide) rfl) ?_
    rintro _ z1 ⟨⟨nc, hnc, rfl⟩, hTz1, hXz1⟩
    refine ⟨_, rfl, ?_⟩
    have hOC1 := hOC.tp hTz hXz1
    have hb7z1 := keepT hTz hXz1 _ _ _ (by decide) hb7z
    have hCz1 : Chg u1 z1 (· = bt) := hCz.trans hXz1 (fun _ _ h => h)
    have hsz1 := hXz1.size
    by_cases hle2 : c ≤ nc
    · refine z_cmpB (r := true) want_none (by decide) rfl rfl rfl (iff_of_true rfl (by omega)) ?_
      refine zl_nil ?_
      refine zk_seq ?_
      refine zc_true rfl ?_
      refine zc_skip ?_
      refine zk_seq ?_
      refine zc_seq ?_
      refine zc_block ?_
      refine zc_drawK 15 (GT bt b7 lv u3.heap.size (blZ d) (.slice AC tC.len cC) tC) killT (fun b z' => Tp z' B bt ∧ Blk z' b7 38 [.string (bs nTr), nS, .string (bs []), nS, .slice AC tC.len cC] ∧ Chg u1 z' (· = bt) ∧ u3.heap.size ≤ z'.heap.size ∧ (b.getD 13 false = false → Out u3.heap.size z' (.slice AC tC.len cC) tC))
        [(0, .pointer (some ⟨bt, 0, none⟩)), (1, .int .i64 lv), (4, .pointer (some ⟨b4, 0, none⟩)), (5, .pointer (some ⟨b5, 0, none⟩)), (6, .int .i64 r), (7, .pointer (some ⟨b7, 0, none⟩)), (8, .int .i64 c)] (by rfl) (by kernel_rfl) (by kernel_rfl) ⟨rfl, rfl, rfl, rfl, rfl, rfl, rfl, trivial⟩ (fun z' hz _ => ⟨hTz1.no hz, hb7z1.no hz, hCz1.no hz, by have := hz.size; omega, fun _ => hOC1.no hz⟩) ?_ (by decide) (fun _ => ⟨by kernel_rfl, by kernel_rfl⟩) ?_
      · intro i hi b a y hbsz hbi hcl hL
        obtain ⟨hok, ⟨hT, hB7, hC, hsz, hOut⟩, hd⟩ := hL
        have hstay : ∀ {j : Nat}, j ≠ 13 → (b.setIfInBounds j true).getD 13 false = false → b.getD 13 false = false := fun hj h => by rwa [gd_ne hj] at h
        have hnew : ∀ {y' : World}, Chg y y' No → ∀ {j : Nat}, j ≠ 13 → (Tp y' B bt ∧ Blk y' b7 38 [.string (bs nTr), nS, .string (bs []), nS, .slice AC tC.len cC] ∧ Chg u1 y' (· = bt) ∧ u3.heap.size ≤ y'.heap.size ∧ ((b.setIfInBounds j true).getD 13 false = false → Out u3.heap.size y' (.slice AC tC.len cC) tC)) := fun hy j hj => ⟨hT.no hy, hB7.no hy, hC.no hy, by have := hy.size; omega, fun h => (hOut (hstay hj h)).no hy⟩
        have hnx : ∀ {y' : World}, Tp y' B bt → Chg y y' (· = bt) → ∀ {j : Nat}, j ≠ 13 → (Tp y' B bt ∧ Blk y' b7 38 [.string (bs nTr), nS, .string (bs []), nS, .slice AC tC.len cC] ∧ Chg u1 y' (· = bt) ∧ u3.heap.size ≤ y'.heap.size ∧ ((b.setIfInBounds j true).getD 13 false = false → Out u3.heap.size y' (.slice AC tC.len cC) tC)) := fun hT' hy j hj => ⟨hT', keepT hT hy _ _ _ (by decide) hB7, hC.trans hy (fun _ _ h => h), by have := hy.size; omega, fun h => (hOut (hstay hj h)).tp hT hy⟩
        have hsame := fun {j : Nat} (hj : j ≠ 13) => hnew (Chg.refl y No) hj
        have g : ∀ j, waits _ i j = true → (killT j = i ∨ 15 ≤ killT j) → ∀ dj, dstOf _ j = some dj → ∃ v, a.tmps[dj]? = some v ∧ GT bt b7 lv u3.heap.size (blZ d) (.slice AC tC.len cC) tC j v y := fun j hw hk dj hdj => by
          obtain ⟨v, h1, h2⟩ := hd j hw dj hdj
          exact ⟨v, h1, h2 (fun hh => hh hk)⟩
        match i, hi with
        | 0, _ => exact ⟨24, rfl, wo_run rfl (by first | exact want_none | exact want_L rfl) rfl hok (r_fa rfl) ⟨_, rfl, rfl, hsame (by decide), fun _ _ _ _ h => h⟩⟩
        | 1, _ =>
          obtain ⟨v, h1, rfl⟩ := g 0 (by kernel_rfl) (by decide) _ rfl
          exact ⟨25, rfl, wo_run rfl (by first | exact want_none | exact want_L rfl) rfl (hok.cons h1) (r_loadB rfl hB7 (by rfl)) ⟨_, rfl, rfl, hsame (by decide), fun _ _ _ _ h => h⟩⟩
        | 2, _ =>
          have hN := New.mk' y 9 (strs lTd)
          exact ⟨26, rfl, wo_run rfl (by first | exact want_none | exact want_L rfl) rfl hok (run_bsE (strs lTd) rfl (by decide) (by decide) (by kernel_rfl)) ⟨_, rfl, ⟨_, rfl, hN.blk⟩, hnew hN.chg (by decide), fun j u _ _ h => GT.no hT hN.chg j u h⟩⟩
        | 3, _ => exact ⟨27, rfl, wo_pure rfl hok rfl ⟨_, rfl, rfl, hsame (by decide), fun _ _ _ _ h => h⟩⟩
        | 4, _ =>
          obtain ⟨v, h1, rfl⟩ := g 3 (by kernel_rfl) (by decide) _ rfl
          refine ⟨28, rfl, wo_call rfl (by first | exact want_none | exact want_L rfl) rfl (hok.cons h1) rfl (next_calls hT 3 (by decide) (by decide) rfl) ?_⟩
          rintro _ y' ⟨⟨k, hk, rfl⟩, hT', hC'⟩
          exact ⟨_, rfl, _, rfl, ⟨k, hk, rfl⟩, hnx hT' hC' (by decide), fun j u _ _ h => GT.tp hT hC' j u h⟩
        | 5, _ =>
          obtain ⟨v0, h0, bq, rfl, hb⟩ := g 2 (by kernel_rfl) (by decide) _ rfl
          obtain ⟨v2, h2, k, hk, rfl⟩ := g 4 (by kernel_rfl) (by decide) _ rfl
          exact ⟨29, rfl, wo_run rfl (by first | exact want_none | exact want_L rfl) rfl ((hok.cons h0).cons h2) (r_ia rfl rfl (by omega) (by omega)) ⟨_, rfl, ⟨bq, k, hk, by simp, hb⟩, hsame (by decide), fun _ _ _ _ h => h⟩⟩
        | 6, _ =>
          obtain ⟨v3, h3, bq, k, hk, rfl, hb⟩ := g 5 (by kernel_rfl) (by decide) _ rfl
          exact ⟨30, rfl, wo_run rfl (by first | exact want_none | exact want_L rfl) rfl (hok.cons h3) (r_load1 rfl ((hb.cell k).trans (strs_get lTd k hk))) ⟨_, rfl, ⟨_, getD_mem lTd k hk, rfl⟩, hsame (by decide), fun _ _ _ _ h => h⟩⟩
        | 7, _ => exact ⟨31, rfl, wo_pure rfl hok rfl ⟨_, rfl, rfl, hsame (by decide), fun _ _ _ _ h => h⟩⟩
        | 8, _ => exact ⟨32, rfl, wo_pure rfl hok rfl ⟨_, rfl, rfl, hsame (by decide), fun _ _ _ _ h => h⟩⟩
        | 9, _ =>
          obtain ⟨v8, h8, rfl⟩ := g 8 (by kernel_rfl) (by decide) _ rfl
          exact ⟨33, rfl, wo_run rfl (by first | exact want_none | exact want_L rfl) rfl (hok.cons h8) (r_add rfl rfl (by omega) (by omega)) ⟨_, rfl, rfl, hsame (by decide), fun _ _ _ _ h => h⟩⟩
        | 10, _ =>
          obtain ⟨v7, h7, rfl⟩ := g 7 (by kernel_rfl) (by decide) _ rfl
          obtain ⟨v9, h9, rfl⟩ := g 9 (by kernel_rfl) (by decide) _ rfl
          have hb13 : b.getD 13 false = false := by
            rcases h13 : b.getD 13 false with _ | _
            · rfl
            · have e1 := hcl 13 12 h13 (by kernel_rfl)
              have e2 := hcl 12 11 e1 (by kernel_rfl)
              have e3 := hcl 11 10 e2 (by kernel_rfl)
              rw [hbi] at e3; cases e3
          have hO := hOut hb13
          refine ⟨34, rfl, wo_call rfl (by first | exact want_none | exact want_L rfl) rfl ((hok.cons h7).cons h9) rfl (hI (li := lv + 2) hT (by omega)) ?_⟩
          rintro _ y' ⟨vK, kt, rfl, hK, hkok, hks, hT', hC'⟩
          exact ⟨_, rfl, _, rfl, ⟨kt, TreeOk.under hO (by omega) (Nat.le_refl _) hK.tree, hkok, hks⟩, hnx hT' hC' (by decide), fun j u _ _ h => GT.tp hT hC' j u h⟩
        | 11, _ =>
          obtain ⟨v6, h6, s, hs, rfl⟩ := g 6 (by kernel_rfl) (by decide) _ rfl
          obtain ⟨v10, h10, kt, hk⟩ := g 10 (by kernel_rfl) (by decide) _ rfl
          obtain ⟨AK, cK, rfl, _⟩ := hk.form
          exact ⟨35, rfl, wo_run rfl (by first | exact want_none | exact want_L rfl) rfl ((hok.cons h6).cons h10) (r_build' (cells := #[.string (bs s), nS, .string (bs []), nS, .slice AK kt.len cK]) rfl (by kernel_rfl)) ⟨_, rfl, ⟨s, hs, _, kt, rfl, hk⟩, hsame (by decide), fun _ _ _ _ h => h⟩⟩
        | 12, _ =>
          obtain ⟨v11, h11, s, hs, K, kt, rfl, hk⟩ := g 11 (by kernel_rfl) (by decide) _ rfl
          have hN := New.mk' y 38 (encM [mE s K])
          have hrd := RdS.art (x := ⟨s, [], []⟩) ⟨rfl, AtS.nil _, rfl, isSl_nil⟩ hk.1 hN
          obtain ⟨AK, cK, rfl, _⟩ := hk.form
          exact ⟨36, rfl, wo_run rfl (by first | exact want_none | exact want_L rfl) rfl (hok.cons h11) (run_bsE (encM [mE s (.slice AK kt.len cK)]) rfl (by decide) (by decide) (by kernel_rfl)) ⟨_, rfl, ⟨s, hs, _, kt, hrd, hk.tp hT (hN.chg.mono (fun _ _ h => h.elim))⟩, hnew hN.chg (by decide), fun j u _ _ h => GT.no hT hN.chg j u h⟩⟩
        | 13, _ =>
          obtain ⟨v1, h1, rfl⟩ := g 1 (by kernel_rfl) (by decide) _ rfl
          obtain ⟨v12, h12, s, hs, K, kt, hr12, hk⟩ := g 12 (by kernel_rfl) (by decide) _ rfl
          have hO := hOut hbi
          have hown : ∀ k, (Value.slice AC tC.len cC).ownBlock = some k → u3.heap.size ≤ k := fun k hk => by obtain ⟨ms, _, g2, _⟩ := hO; exact g2 k hk
          refine ⟨37, rfl, wo_push rfl (by first | exact want_none | exact want_L rfl) ((hok.cons h1).cons h12) rfl rfl hO hr12 hk hsz (by omega) (fun v' y' hO' hC' => ?_)⟩
          refine ⟨v', rfl, ⟨s, hs, kt, hO', hk.2⟩, ⟨hT.own hO (by have := hT0.lt; have := hT0.ge; omega) hC', hB7.chg hC' (fun he => by have := hown _ he; omega), Chg.own hC hO (by omega) hC', by have := hC'.size; omega, fun h => ?_⟩, fun j u hj hk' h => GT.own hO hC' j u hj hk' h⟩
          have h' : 13 < b.size := by rw [hbsz]; decide
          simp [h'] at h
        | 14, _ => exact ⟨38, rfl, wo_run rfl (by first | exact want_none | exact want_L rfl) rfl hok (r_fa rfl) ⟨_, rfl, rfl, hsame (by decide), fun _ _ _ _ h => h⟩⟩
      · intro b a y hL
        obtain ⟨hok, ⟨hT, hB7, hC, hsz, _⟩, hd⟩ := hL
        obtain ⟨v13, h13, g13⟩ := hd 13 (by decide) _ rfl
        obtain ⟨v14, h14, g14⟩ := hd 14 (by decide) _ rfl
        obtain ⟨s, hs, kt, hO', hkok, hks⟩ := g13 (by decide)
        obtain rfl := g14 (by decide)
        obtain ⟨A', c', rfl, hcc'⟩ := hO'.form
        rw [if_pos (by decide)]
        refine wo_store rfl (by first | exact want_none | exact want_L rfl) ((hok.cons h13).cons h14) rfl rfl (by rfl) hB7 (by simp) (by simp [Value.cells, Value.oneCell']) (fun y2 hU2 => ?_)
        have hb7y : Blk y2 b7 38 [.string (bs nTr), nS, .string (bs []), nS, .slice A' (tC.snoc ⟨s, [], []⟩ kt).len c'] := hU2.blk
        refine np_zk (e := [(0, .pointer (some ⟨bt, 0, none⟩)), (1, .int .i64 lv), (4, .pointer (some ⟨b4, 0, none⟩)), (5, .pointer (some ⟨b5, 0, none⟩)), (6, .int .i64 r), (7, .pointer (some ⟨b7, 0, none⟩)), (8, .int .i64 c)]) ?_ hok
        have hO2 : Out u3.heap.size y2 (.slice A' (tC.snoc ⟨s, [], []⟩ kt).len c') (tC.snoc ⟨s, [], []⟩ kt) := hO'.chg hU2.chg (fun b' cells _ hb' he => by omega) (fun b' cells hb' he => hb'.ne hB7 (by decide) he)
        have hT2 : Tp y2 B bt := hT.oth hU2.chg (fun he => by obtain ⟨cs, hb⟩ := hT.blk; exact hb.ne hB7 (by decide) he) (fun k _ hk => by omega)
        refine zk_norm_block ?_
        refine zk_seq ?_
        refine zc_region ?_
        refine zl_pureL rfl ?_
        refine z_add want_none (by decide) rfl rfl (by omega) (by omega) ?_
        refine zl_pureL rfl ?_
        refine zl_nil ?_
        refine zk_loopW (c + 1, .slice A' (tC.snoc ⟨s, [], []⟩ kt).len c', tC.snoc ⟨s, [], []⟩ kt) ⟨by omega, hO2, AT.snoc_ok hokC (hdN (lTd_nm s hs)) hkok, by rw [AT.snoc_len, hlenC], ?_, hb7y, hT2, hC.trans hU2.chg (fun k hk he => by omega), by have := hU2.chg.size; omega⟩ (by show 3 - (c + 1) < 3 - c; omega) ⟨rfl, rfl, rfl, rfl, rfl, rfl, get_int rfl (by simp), trivial⟩
        dsimp only
        rw [AT.snoc_size, Nat.add_mul, Nat.one_mul]; omega
    · have hOC1t := hOC1.tree
      have hKr : KidOk z1 w3.heap.size (2 + 2 * blZ d) (.slice AB tB.len cB) (.slice AC tC.len cC) tC := ⟨TreeOk.under hOB1 (by have := hX13'.size; omega) (by have := hX13'.size; omega) hOC1t, hokC, by
        have h1 := Nat.mul_le_mul_right (1 + blZ d) hcc
        omega⟩
      have hOBz := hOB1.tp hT1 hCz1
      have hb5z := keepT hT1 hCz1 _ _ _ (by decide) hb51
      have hb4z := keepT hT1 hCz1 _ _ _ (by decide) hb41'
      have hCwz : Chg w z1 (· = bt) := hC1.trans hCz1 (fun _ _ h => h)
      have hw3z : w3.heap.size ≤ z1.heap.size := by have := hX13'.size; omega
      refine z_cmpB (r := false) want_none (by decide) rfl rfl rfl (iff_of_false Bool.false_ne_true (by omega)) ?_
      refine zl_nil ?_
      refine zk_seq ?_
      refine zc_false rfl ?_
      refine zc_exit ?_
      iterate 2 (refine zk_exit_then ?_)
      refine zk_exit_block ?_
      refine zk_seq ?_
      refine zc_region ?_
      refine z_fa want_none (by decide) rfl ?_
      refine z_loadB want_none (by decide) rfl (by assumption) (by rfl) ?_
      refine z_loadAB want_none (by decide) rfl (by assumption) (by rfl) ?_
      refine z_bsE (encM [mE nTr (.slice AC tC.len cC)]) (by first | exact want_none | exact want_L rfl) (by decide) rfl (by decide) (by decide) (by kernel_rfl) (fun p1 pb hP => ?_)
      skip
      refine z_push (h := ⟨nTr, [], []⟩) (k := tC) (m := mE nTr (.slice AC tC.len cC)) (by first | exact want_none | exact want_L rfl) (by decide) rfl rfl hOBz ⟨rfl, AtS.nil _, rfl, isSl_nil⟩ hKr.1 (by omega) hP (by omega) (fun p2 q2 hP2 hPC => ?_)
      obtain ⟨A', c', rfl, _⟩ := hP2.form
      have hown : ∀ k, (Value.slice AB tB.len cB).ownBlock = some k → w3.heap.size ≤ k := fun k hk => by obtain ⟨ms, _, g2, _⟩ := hOBz; exact g2 k hk
      have hb5q := hb5z.chg hPC (fun he => by have := hown _ he; omega)
      have hb4q := hb4z.chg hPC (fun he => by have := hown _ he; omega)
      have hTq := hTz1.own hOBz (by omega) hPC
      have hCq := Chg.own hCwz hOBz (by have := hN1.chg.size; have := hX13.size; omega) hPC
      refine z_fa want_none (by decide) rfl ?_
      refine z_store (by first | exact want_none | exact want_L rfl) rfl rfl rfl (by assumption) (by first | exact Nat.le_refl _ | simp [Value.cells]) (by simp [Value.cells, Value.oneCell']) (fun q3 hU3 => ?_)
      have hb5s : Blk q3 b5 38 [.string (bs nTbody), nS, .string (bs []), nS, .slice A' (tB.snoc ⟨nTr, [], []⟩ tC).len c'] := hU3.blk
      have hO3 : Out w3.heap.size q3 (.slice A' (tB.snoc ⟨nTr, [], []⟩ tC).len c') (tB.snoc ⟨nTr, [], []⟩ tC) := hP2.chg hU3.chg (fun b' cells _ hb' he => by omega) (fun b' cells hb' he => hb'.ne hb5q (by decide) he)
      refine zl_nil ?_
      refine zk_norm_block ?_
      refine zk_seq ?_
      refine zc_region ?_
      refine zl_pureL rfl ?_
      refine z_add want_none (by decide) rfl rfl (by omega) (by omega) ?_
      refine zl_pureL rfl ?_
      refine zl_nil ?_
      refine zk_loopW (r + 1, .slice A' (tB.snoc ⟨nTr, [], []⟩ tC).len c', tB.snoc ⟨nTr, [], []⟩ tC) ⟨by omega, hO3, AT.snoc_ok hokB (hdN (by decide)) hokC, by rw [AT.snoc_len, hlenB], ?_, hb5s, hb4q.chg hU3.chg (fun he => by omega), hTq.oth hU3.chg (fun he => by omega) (fun k _ hk => by omega), hCq.trans hU3.chg (fun k hk he => by omega), by have := hPC.size; have := hU3.chg.size; omega⟩ (by show 2 - (r + 1) < 2 - r; omega) ⟨rfl, rfl, rfl, rfl, get_int rfl (by simp), trivial⟩
      dsimp only
      have := hKr.2.2
      rw [AT.snoc_size, Nat.add_mul, Nat.one_mul]; omega
  · have hKB : KidOk u1 w3.heap.size (6 + 4 * blZ d) (.slice none 0 0) (.slice AB tB.len cB) tB := ⟨hOB1.tree.mono (fun b _ hb => ⟨hb, fun h => by cases h⟩), hokB, by
      have h1 := Nat.mul_le_mul_right (3 + 2 * blZ d) hr
      omega⟩
    refine z_cmpB (r := false) want_none (by decide) rfl rfl rfl (iff_of_false Bool.false_ne_true (by omega)) ?_
    refine zl_nil ?_
    refine zk_seq ?_
    refine zc_false rfl ?_
    refine zc_exit ?_
    iterate 2 (refine zk_exit_then ?_)
    refine zk_exit_block ?_
    refine zk_seq ?_
    refine zc_seq ?_
    refine zc_region ?_
    refine z_loadAB want_none (by decide) rfl (by assumption) (by rfl) ?_
    refine z_bsE (encM [mE nTbody (.slice AB tB.len cB)]) (by first | exact want_none | exact want_L rfl) (by decide) rfl (by decide) (by decide) (by kernel_rfl) (fun p1 pb hP => ?_)
    have hrd := RdS.art (x := ⟨nTbody, [], []⟩) ⟨rfl, AtS.nil _, rfl, isSl_nil⟩ hKB.1 hP
    have hK1 : TreeOk p1 (fun b => w3.heap.size ≤ b) (.slice (some ⟨pb, 0, none⟩) 1 1) (.cons ⟨nTbody, [], []⟩ tB .nil) :=
      ⟨[mE nTbody (.slice AB tB.len cB)], hrd, fun _ b hb => by simp only [Value.ownBlock, Option.some.injEq] at hb; have := hP.at_; omega, _, [], rfl, ⟨rfl, AtS.nil _, rfl, isSl_nil⟩, (hKB.1.no hP.chg).mono (fun b _ h => h.1), rfl⟩
    have hokK : (AT.cons ⟨nTbody, [], []⟩ tB .nil).ok := ⟨hdN (by decide), hokB, trivial⟩
    have hszK : (AT.cons ⟨nTbody, [], []⟩ tB .nil).size ≤ 8 + 4 * blZ d := by have := hKB.2.2; simp only [AT.size]; omega
    have hTp1 := hT1.no hP.chg
    have hb4p := hb41'.no hP.chg
    have hCp1 : Chg w p1 (· = bt) := hC1.no hP.chg
    refine z_buildE #[.string (bs nTable), nS, .string (bs []), nS, .slice (some ⟨pb, 0, none⟩) 1 1] (by first | exact want_none | exact want_L rfl) (by decide) rfl (by kernel_rfl) ?_
    refine z_alloc (by first | exact want_none | exact want_L rfl) (by decide) (fun p2 b9 hN9 => ?_)
    have hb92 : Blk p2 b9 38 [.string ⟨#[]⟩, nS, .string ⟨#[]⟩, nS, nS] := hN9.blk
    refine z_store (by first | exact want_none | exact want_L rfl) rfl rfl rfl (by assumption) (by first | exact Nat.le_refl _ | simp [Value.cells]) (by simp [Value.cells, Value.oneCell']) (fun p3 hU9 => ?_)
    have hb93 : Blk p3 b9 38 [.string (bs nTable), nS, .string (bs []), nS, .slice (some ⟨pb, 0, none⟩) 1 1] := hU9.blk
    have hX9 : Chg p1 p3 No := hN9.chg.upd hU9 (hN9.ge (Chg.refl _ No))
    have hb9ge : p1.heap.size ≤ b9 := hN9.ge (Chg.refl _ No)
    have hsp1 := hCp1.size
    have hK3 := hK1.no hX9
    refine zl_nil ?_
    refine zk_seq ?_
    iterate 2 (refine zc_seq ?_)
    refine zc_region ?_
    refine z_loadAB want_none (by decide) rfl (by assumption) (by rfl) ?_
    refine zl_call (by first | exact want_none | exact want_L rfl) rfl (by decide) rfl (titled_calls (nm := nTable) (tx := []) isSl_nil isSl_nil hK3.at'.weak (by omega)) ?_
    rintro _ p4 ⟨⟨q, rfl⟩, hX4⟩
    refine ⟨_, rfl, ?_⟩
    have hK4 := hK3.no hX4
    have hb94 := hb93.no hX4
    have hb44 := (hb4p.no hX9).no hX4
    have hT4 := (hTp1.no hX9).no hX4
    have hC4 : Chg w p4 (· = bt) := (hCp1.no hX9).no hX4
    have h49 : b4 < b9 := by have := hb4p.lt; omega
    cases q
    · refine zl_pureL rfl ?_
      refine zl_nil ?_
      refine zk_seq ?_
      refine zc_true rfl ?_
      refine zc_region ?_
      refine z_buildE #[.string (bs [114, 111, 108, 101]), .string (bs sPres)] (by first | exact want_none | exact want_L rfl) (by decide) rfl (by kernel_rfl) ?_
      refine z_bsE (encA [([114, 111, 108, 101], sPres)]) (by first | exact want_none | exact want_L rfl) (by decide) rfl (by decide) (by decide) (by kernel_rfl) (fun p5 ba hA => ?_)
      have hA5 : AtS p5 (.slice (some ⟨ba, 0, none⟩) 1 1) [([114, 111, 108, 101], sPres)] := RdS.new hA rfl (encA_one _)
      have hb95 := hb94.no hA.chg
      have hK5 := hK4.no hA.chg
      have hb45 := hb44.no hA.chg
      have hT5 := hT4.no hA.chg
      have hC5 : Chg w p5 (· = bt) := hC4.no hA.chg
      refine z_fa want_none (by decide) rfl ?_
      refine z_store (by first | exact want_none | exact want_L rfl) rfl rfl rfl (by assumption) (by first | exact Nat.le_refl _ | simp [Value.cells]) (by simp [Value.cells, Value.oneCell']) (fun p6 hU6 => ?_)
      have hb96 : Blk p6 b9 38 [.string (bs nTable), .slice (some ⟨ba, 0, none⟩) 1 1, .string (bs []), nS, .slice (some ⟨pb, 0, none⟩) 1 1] := hU6.blk
      have hpb : pb < p1.heap.size := hP.blk.lt
      have hX56 : Chg p1 p6 No := ((hX9.no hX4).no hA.chg).upd hU6 hb9ge
      have hK6 := hK1.no hX56
      have hA6 : AtS p6 (.slice (some ⟨ba, 0, none⟩) 1 1) [([114, 111, 108, 101], sPres)] := RdS.chg hA5 hU6.chg (fun b cells hb he => hb.ne hb95 (by decide) he)
      have hb46 := hb4p.no hX56
      refine zl_nil ?_
      refine zk_seq ?_
      refine zc_seq ?_
      refine zc_region ?_
      refine z_loadAB want_none (by decide) rfl (by assumption) (by rfl) ?_
      refine z_store (by first | exact want_none | exact want_L rfl) rfl rfl rfl (by assumption) (by first | exact Nat.le_refl _ | simp [Value.cells]) (by simp [Value.cells, Value.oneCell']) (fun p7 hU7 => ?_)
      have hb47 : Blk p7 b4 38 [.string (bs nTable), .slice (some ⟨ba, 0, none⟩) 1 1, .string (bs []), nS, .slice (some ⟨pb, 0, none⟩) 1 1] := hU7.blk
      refine zl_nil ?_
      refine zk_seq ?_
      refine zc_ret ?_
      have hb4lt3 : b4 < w3.heap.size := by omega
      refine zk_retC (.inr rfl) rfl rfl hb47 rfl ⟨_, [([114, 111, 108, 101], sPres)], _, _, rfl, RdS.chg hA6 hU7.chg (fun b cells hb he => hb.ne hb46 (by decide) he), by decide, by decide, (hK6.chg hU7.chg (fun b cells _ hb he => by omega) (fun b cells hb he => hb.ne hb46 (by decide) he)).mono (fun b _ hb => by have := hX03.size; omega), hokK, hszK, ?_, ?_⟩
      · exact (hTp1.no hX56).oth hU7.chg (fun he => by omega) (fun k _ hk => by omega)
      · exact (hCp1.no hX56).trans hU7.chg (fun k hk he => by omega)
    · refine zl_pureL rfl ?_
      refine zl_nil ?_
      refine zk_seq ?_
      refine zc_false rfl ?_
      refine zc_skip ?_
      refine zk_seq ?_
      refine zc_seq ?_
      refine zc_region ?_
      refine z_loadAB want_none (by decide) rfl (by assumption) (by rfl) ?_
      refine z_store (by first | exact want_none | exact want_L rfl) rfl rfl rfl (by assumption) (by first | exact Nat.le_refl _ | simp [Value.cells]) (by simp [Value.cells, Value.oneCell']) (fun p7 hU7 => ?_)
      have hb47 : Blk p7 b4 38 [.string (bs nTable), nS, .string (bs []), nS, .slice (some ⟨pb, 0, none⟩) 1 1] := hU7.blk
      refine zl_nil ?_
      refine zk_seq ?_
      refine zc_ret ?_
      refine zk_retC (.inr rfl) rfl rfl hb47 rfl ⟨_, [], _, _, rfl, AtS.nil _, by decide, by simp, (hK4.chg hU7.chg (fun b cells _ hb he => by omega) (fun b cells hb he => hb.ne hb44 (by decide) he)).mono (fun b _ hb => by have := hX03.size; omega), hokK, hszK, ?_, ?_⟩
      · exact hT4.oth hU7.chg (fun he => by omega) (fun k _ hk => by omega)
      · exact hC4.trans hU7.chg (fun k hk he => by omega)
end Go.Proofs.Ytbcmiijollpgeaa.T
