import Derived.Test.YtbcmiijollpgeaaPTurn
/- Turned: the walk. -/
namespace Go.Proofs.Ytbcmiijollpgeaa.T
open Go Go.Z Go.Proofs
set_option linter.unusedVariables false
def wtH (x : Hd) (k : AT) : Nat := 2 * x.name.length + attrsN x.attrs + 6 * x.text.length + 10 + k.wt
def TurnC (f : Nat) : Prop := ∀ {w : World} {B bt : Nat} {v : Value} {ob : Nat → Prop} (t : AT), t.size ≤ f → Tp w B bt → TreeOk w ob v t → t.wt ≤ 300000000000 →
  Calls Try.prog 9 [v, .pointer (some ⟨bt, 0, none⟩)].toArray w fun e w' => ∃ v' t', e = .returned v' ∧ TreeOk w' (fun b => ob b ∨ w.heap.size ≤ b) v' t' ∧ t'.wt ≤ 2 * t.wt + 200 ∧ Tp w' B bt ∧ Chg w w' (· = bt)
theorem wt_at {t : AT} {i : Nat} {x : Hd} {k r : AT} (h : t.dropN i = .cons x k r) : wtH x k ≤ t.wt := by
  have := t.drop_text i
  rw [h] at this
  simp only [AT.wt] at this
  unfold wtH; omega
theorem drop_some : ∀ (i : Nat) (t : AT) (x : Hd) (k r : AT), t.dropN i = .cons x k r → i < t.len
  | 0, .cons _ _ _, x, k, r, h => by simp [AT.len]
  | 0, .nil, x, k, r, h => by cases h
  | i + 1, .nil, x, k, r, h => by cases h
  | i + 1, .cons _ _ s, x, k, r, h => by have := drop_some i s x k r h; simp only [AT.len]; omega
/-- what the switch leaves: the art in its block, the row -/
structure TM where
  x : Hd
  k : AT
  A : Value
  F : Value
  K : Value
  vo : Value
  ms : List MA
  t : AT
  r : AT
structure TMid (ob : Nat → Prop) (w u : World) (B bt b7 i : Nat) (x0 : Hd) (k0 t0 : AT) (q : TM) : Prop where
  blk : Blk u b7 38 [.string (bs q.x.name), q.A, .string (bs q.x.text), q.F, q.K]
  a : AtS u q.A q.x.attrs
  f : isSl q.F
  k : TreeOk u (fun b => q.vo.ownBlock ≠ some b ∧ (ob b ∨ w.heap.size ≤ b)) q.K q.k
  own : Own u 38 5 q.vo q.ms.length (encM q.ms)
  rows : RowsOk u (fun b => q.vo.ownBlock ≠ some b ∧ (ob b ∨ w.heap.size ≤ b)) q.t q.ms
  at_ : q.t.dropN i = .cons x0 k0 q.r
  ge : ∀ k, q.vo.ownBlock = some k → w.heap.size ≤ k ∧ k ≠ b7
  wt : q.t.wt + wtH q.x q.k ≤ 2 * t0.wt + 200 + wtH x0 k0
  tp : Tp u B bt
  chg : Chg w u (· = bt)
def mX : MA := ⟨[], nS, [120], nS, nS⟩
def sJv : List UInt8 := [106, 97, 118, 97, 115, 99, 114, 105, 112, 116, 58, 49]
theorem dropN_app : ∀ (i : Nat) (t q : AT) (x : Hd) (k r : AT), t.dropN i = .cons x k r → (t.app q).dropN i = .cons x k (r.app q)
  | 0, .cons _ _ _, q, x, k, r, h => by cases h; rfl
  | 0, .nil, q, x, k, r, h => by cases h
  | i + 1, .nil, q, x, k, r, h => by cases h
  | i + 1, .cons _ _ s, q, x, k, r, h => dropN_app i s q x k r h
def lnV : List UInt8 := [112, 32, 104, 49, 32, 104, 50, 32, 108, 105, 32, 116, 100, 32, 116, 97, 98, 108, 101, 32, 116, 98, 111, 100, 121, 32, 100, 105, 118, 32, 97, 32, 101, 109, 32, 98, 114, 32, 104, 114, 32, 105, 109, 103]
def lnT : List (List UInt8) := wordsN [] lnV
theorem lnT_len : lnT.length = 13 := by decide +kernel
theorem lnT_nm : ∀ x ∈ lnT, x.length ≤ 10 := by decide +kernel
theorem attrsN_app : ∀ l r : List At, attrsN (l ++ r) = attrsN l + attrsN r
  | [], r => by simp [attrsN]
  | a :: l, r => by have := attrsN_app l r; simp only [List.cons_append, attrsN, this]; omega
set_option maxRecDepth 100000 in
set_option maxHeartbeats 16000000 in
theorem turn_body (f : Nat) (ih : ∀ g, f = g + 1 → TurnC g) : TurnC f := by
  intro w B bt v ob t hs hT0 h hl
  obtain ⟨ms, hr, _, hR⟩ := h
  have hlen := Rows.len t ms (RowsOk.rows t ms hR)
  obtain ⟨A, c, rfl, hc⟩ := hr.form
  have hlw := len_wt t
  have hbtlt := hT0.lt
  have hbtge := hT0.ge
  refine calls_zc (n := 97) (f := 9) (fn := Try.f9) Try.func9 rfl rfl (by simp) ?_
  refine zc_seq ?_
  refine zc_region ?_
  refine zl_pureL rfl ?_
  refine zl_nil ?_
  refine zk_seq ?_
  refine zc_seq ?_
  refine zc_region ?_
  refine z_bs0 (by first | exact want_none | exact want_L rfl) (by decide) (fun y1 b1 hN1 => ?_)
  have hE1 : Own y1 38 5 (.slice (some ⟨b1, 0, none⟩) 0 0) 0 [] := Own.empty hN1
  refine zl_pureL rfl ?_
  refine z_appendO (by rfl) (by decide) (by first | exact want_none | exact want_L rfl) (by decide) rfl rfl hE1 (hr.no hN1.chg) (by omega) (by omega) (fun vo y2 hO2 hX2 hr2 => ?_)
  have hX : Chg w y2 No := hN1.chg.trans hX2 (fun k hk he => by simp only [Value.ownBlock, Option.some.injEq] at he; have := hN1.at_; omega)
  have hge : ∀ k, vo.ownBlock = some k → w.heap.size ≤ k := fun k hk => by
    rcases hr2 with e1 | ⟨q, e1, e2⟩
    · rw [e1] at hk; simp only [Value.ownBlock, Option.some.injEq] at hk; have := hN1.at_; omega
    · rw [hk] at e1; cases e1; have := hN1.chg.size; omega
  rw [List.nil_append, Nat.zero_add] at hO2
  obtain ⟨Ao, co, hvo, hco⟩ := hO2.rd.form
  subst hvo
  have hR2 := RowsOk.chg hX (fun _ _ _ _ => id) (fun _ _ _ => id) t ms hR
  have hT2 := hT0.no hX
  by_cases h0 : ms.length = 0
  · refine zl_pureL rfl ?_
    refine zl_nil ?_
    refine zk_seq ?_
    iterate 2 (refine zc_seq ?_)
    refine zc_region ?_
    refine zl_pureL rfl ?_
    refine z_len want_none (by decide) rfl ?_
    refine z_cmpB (r := true) want_none (by decide) rfl rfl rfl (iff_of_true rfl (by omega)) ?_
    refine zl_nil ?_
    refine zk_seq ?_
    refine zc_true rfl ?_
    refine zc_seq ?_
    refine zc_region ?_
    refine z_buildE #[.string (bs nLi), nS, .string (bs []), nS, nS] (by first | exact want_none | exact want_L rfl) (by decide) rfl (by kernel_rfl) ?_
    refine z_bsE (encM [mE nLi nS]) (by first | exact want_none | exact want_L rfl) (by decide) rfl (by decide) (by decide) (by kernel_rfl) (fun y3 b3 hN3 => ?_)
    have ht3 : TreeAt true y3 (.slice (some ⟨b3, 0, none⟩) 1 1) (aN nLi .nil) := tree_new hN3 (rows_cons (nm := nLi) (tx := []) (AttrS.nil _) TreeAt.nil rows_nil)
    have hw3 : (aN nLi .nil).wt ≤ 200 := by decide
    have hok3 : TreeOk y3 (fun b => ob b ∨ w.heap.size ≤ b) (.slice (some ⟨b3, 0, none⟩) 1 1) (aN nLi .nil) := ⟨[mE nLi nS], RdS.art (x := ⟨nLi, [], []⟩) (m := mE nLi nS) ⟨rfl, AtS.nil _, rfl, isSl_nil⟩ (TreeOk.nil (o := fun _ => True)) hN3, fun _ b hb => by simp only [Value.ownBlock, Option.some.injEq] at hb; subst hb; exact .inr (by have := hX.size; have := hN3.at_; omega), mE nLi nS, [], rfl, ⟨rfl, AtS.nil _, rfl, isSl_nil⟩, ⟨[], RdS.nil, fun h => absurd h (Nat.lt_irrefl 0), rfl⟩, rfl⟩
    refine zl_pureL rfl ?_
    refine zl_nil ?_
    refine zk_seq ?_
    refine zc_ret ?_
    refine zk_ret_then ?_
    exact zk_ret1 (.inr rfl) rfl rfl ⟨_, _, rfl, hok3, by omega, hT2.no hN3.chg, (hX.no hN3.chg).mono (fun _ _ h => h.elim)⟩
  refine zl_pureL rfl ?_
  refine zl_nil ?_
  refine zk_seq ?_
  iterate 2 (refine zc_seq ?_)
  refine zc_region ?_
  refine zl_pureL rfl ?_
  refine z_len want_none (by decide) rfl ?_
  refine z_cmpB (r := false) want_none (by decide) rfl rfl rfl (iff_of_false Bool.false_ne_true (by omega)) ?_
  refine zl_nil ?_
  refine zk_seq ?_
  refine zc_false rfl ?_
  refine zc_skip ?_
  refine zk_seq ?_
  refine zc_seq ?_
  refine zc_region ?_
  iterate 2 (refine zl_pureL rfl ?_)
  refine z_len want_none (by decide) rfl ?_
  refine zl_call (by first | exact want_none | exact want_L rfl) rfl (by decide) rfl (next_calls hT2 ms.length (by omega) (by omega) rfl) ?_
  rintro _ y3 ⟨⟨i, hi, rfl⟩, hT3, hX3⟩
  refine ⟨_, rfl, ?_⟩
  have hO3 : Own y3 38 5 (.slice Ao ms.length co) ms.length (encM ms) := hO2.chg hX3 (fun k hk he => by obtain ⟨cs, hb⟩ := hT2.blk; exact hO2.ne hk hb (by decide) he)
  obtain ⟨cbt, hbbt⟩ := hT2.blk
  have hR3 : RowsOk y3 (fun b => (Value.slice Ao ms.length co).ownBlock ≠ some b ∧ ob b ∧ b < w.heap.size) t ms := RowsOk.chg hX3 (fun b cs hb _ he => hb.ne hbbt (by decide) he) (fun b cs hb he => hb.ne hbbt (by decide) he) t ms
    (RowsOk.chg hX (fun _ _ _ _ => id) (fun _ _ _ => id) t ms (RowsOk.mono (fun b hb ho => ⟨fun he => by have := hge b he; omega, ho, hb⟩) t ms hR))
  have hX03 : Chg w y3 (· = bt) := (hX.mono (S' := (· = bt)) (fun _ _ h => h.elim)).trans hX3 (fun _ _ h => h)
  obtain ⟨b', o, c', x, k, r, A', F, K, e1, hv, hN, hA, hF, hK⟩ := rowOk_at hO3.rd hR3 i (by omega)
  rw [← hlen] at hv
  cases hv
  obtain rfl := own_zero hO3
  have hwx := wt_at e1
  have hd := e1
  obtain ⟨A2, c2, rfl, _⟩ := hA.form
  obtain ⟨A3, m3, c3, rfl⟩ := hF
  obtain ⟨A4, c4, rfl, _⟩ := hK.form
  refine zl_pureL rfl ?_
  refine zl_nil ?_
  refine zk_seq ?_
  refine zc_seq ?_
  refine zc_region ?_
  iterate 2 (refine zl_pureL rfl ?_)
  refine z_ia want_none (by decide) rfl rfl (by omega) (by omega) ?_
  refine z_loadA (by rfl) (by first | exact want_none | exact want_L rfl) (by decide) rfl (hN.agg (by omega)) ?_
  refine z_alloc (by first | exact want_none | exact want_L rfl) (by decide) (fun y4 b7 hN4 => ?_)
  have hb74 : Blk y4 b7 38 [.string ⟨#[]⟩, nS, .string ⟨#[]⟩, nS, nS] := hN4.blk
  refine z_store (by first | exact want_none | exact want_L rfl) rfl rfl rfl (by assumption) (by first | exact Nat.le_refl _ | simp [Value.cells]) (by simp [Value.cells, Value.oneCell']) (fun y5 hU5 => ?_)
  have hb75 : Blk y5 b7 38 [.string (bs x.name), .slice A2 x.attrs.length c2, .string (bs x.text), .slice A3 m3 c3, .slice A4 k.len c4] := hU5.blk
  refine zl_nil ?_
  refine zk_seq ?_
  iterate 2 (refine zc_seq ?_)
  refine zc_region ?_
  refine zl_pureL rfl ?_
  have hX5 : Chg y3 y5 No := hN4.chg.upd hU5 (hN4.ge (Chg.refl _ No))
  have hb7ge : y3.heap.size ≤ b7 := hN4.ge (Chg.refl _ No)
  have hT5 := hT3.no hX5
  refine zl_call (by first | exact want_none | exact want_L rfl) rfl (by decide) rfl (next_calls hT5 12 (by decide) (by decide) rfl) ?_
  rintro _ y6 ⟨⟨kk, hkk, rfl⟩, hT6, hX6⟩
  refine ⟨_, rfl, ?_⟩
  have hb76 := keepT hT5 hX6 _ _ _ (by decide) hb75
  have hX36 : Chg y3 y6 (· = bt) := (hX5.mono (S' := (· = bt)) (fun _ _ h => h.elim)).trans hX6 (fun _ _ h => h)
  refine zl_nil ?_
  refine zk_seq ?_
  refine zc_midTX (ι := TM) (fun q u => TMid ob w u B bt b7 i x k t q) (fun q => [(1, .pointer (some ⟨bt, 0, none⟩)), (5, q.vo), (6, .int .i64 i), (7, .pointer (some ⟨b7, 0, none⟩))]) ?_ ?_
  rotate_left
  · rintro q u hM
    obtain ⟨qx, qk, qA, qF, qK, qvo, qms, qt, qr⟩ := q
    obtain ⟨hB, hqA, hqF, hqK, hqO, hqR, hat, hqge, hwt, hTu, hCu⟩ := hM
    dsimp only at hB hqA hqF hqK hqO hqR hat hqge hwt hTu hCu ⊢
    have hil := drop_some i qt x k qr hat
    have hql := Rows.len qt qms (RowsOk.rows qt qms hqR)
    obtain ⟨qA1, qc1, rfl, _⟩ := hqA.form
    obtain ⟨qF1, qm1, qf1, rfl⟩ := hqF
    obtain ⟨qK1, qk1, rfl, _⟩ := hqK.form
    obtain ⟨bo, cq, rfl⟩ : ∃ bo cq, qvo = .slice (some ⟨bo, 0, none⟩) qms.length cq := by
      rcases hqO.cases.2 with ⟨_, h0', _⟩ | ⟨b2, cap, junk, hv2, _⟩
      · omega
      · exact ⟨b2, cap, hv2⟩
    obtain ⟨cells, hbo, hfit, hup⟩ := own_setM hqO i (by omega) ⟨qx.name, .slice qA1 qx.attrs.length qc1, qx.text, .slice qF1 qm1 qf1, .slice qK1 qk.len qk1⟩ (by simp [MA.cells, Value.oneCell'])
    have hgo := hqge bo rfl
    refine zc_seq ?_
    refine zc_region ?_
    iterate 2 (refine zl_pureL rfl ?_)
    refine z_loadAB want_none (by decide) rfl (by assumption) (by rfl) ?_
    refine z_ia want_none (by decide) rfl rfl (by omega) (by omega) ?_
    refine z_store (by first | exact want_none | exact want_L rfl) rfl rfl (by rfl) hbo (by omega) (by simp [Value.cells, Value.oneCell']) (fun u2 hU2 => ?_)
    have e0 : 0 + ((i : Int)).toNat * 5 = i * 5 := by omega
    rw [e0] at hU2
    have hO2 := hup u2 hU2
    have hne : ∀ b' cs, Blk u b' 38 cs → ((Value.slice (some ⟨bo, 0, none⟩) qms.length cq).ownBlock ≠ some b' ∧ (ob b' ∨ w.heap.size ≤ b')) → ¬ b' = bo := fun b' cs _ hq he => hq.1 (by rw [he]; rfl)
    have h33 : ∀ b' cs, Blk u b' 33 cs → ¬ b' = bo := fun b' cs hb' he => hb'.ne hbo (by decide) he
    have hR2' := RowsOk.chg hU2.chg hne h33 _ _ hqR
    have hK2 := hqK.chg hU2.chg hne h33
    have hA2 : AtS u2 (.slice qA1 qx.attrs.length qc1) qx.attrs := RdS.chg hqA hU2.chg (fun b' cs hb' he => h33 b' cs hb' he)
    have hRs := RowsOk.set i qt qms ⟨qx.name, .slice qA1 qx.attrs.length qc1, qx.text, .slice qF1 qm1 qf1, .slice qK1 qk.len qk1⟩ qx qk hR2' hil ⟨rfl, hA2, rfl, ⟨_, _, _, rfl⟩⟩ hK2
    have hwt2 := AT.setN_wt i qt qx qk x k qr hat
    unfold wtH at hwt
    refine zl_nil ?_
    refine zk_seq ?_
    refine zc_seq ?_
    refine zc_region ?_
    iterate 2 (refine zl_pureL rfl ?_)
    refine zl_nil ?_
    refine zk_seq ?_
    refine zc_ret ?_
    exact zk_ret1 (.inr rfl) rfl rfl ⟨_, qt.setN i qx qk, rfl, ⟨qms.set i _, by rw [List.length_set]; exact hO2.rd, fun _ b hb => by simp only [Value.ownBlock, Option.some.injEq] at hb; subst hb; exact .inr hgo.1, RowsOk.mono (fun b _ hb => hb.2) _ _ hRs⟩, by omega, hTu.oth hU2.chg (fun he => by obtain ⟨cs, hb⟩ := hTu.blk; exact hb.ne hbo (by decide) he) (fun k _ hk => by omega), hCu.trans hU2.chg (fun k hk he => by omega)⟩
  have hX06 : Chg w y6 (· = bt) := hX03.trans hX36 (fun _ _ h => h)
  have hs06 := hX06.size
  have hs03 := hX03.size
  have hA6 : AtS y6 (.slice A2 x.attrs.length c2) x.attrs := AtS.tp (RdS.no hA hX5) hT5 hX6
  have hK6 := ((hK.no hX5).tp hT5 hX6)
  have hO5 := hO3.no hX5
  have hO6 : Own y6 38 5 (.slice (some ⟨b', 0, none⟩) ms.length co) ms.length (encM ms) := hO5.chg hX6 (fun k hk he => by obtain ⟨cs, hb⟩ := hT5.blk; exact hO5.ne hk hb (by decide) he)
  have hR6 : RowsOk y6 (fun b => (Value.slice (some ⟨b', 0, none⟩) ms.length co).ownBlock ≠ some b ∧ ob b ∧ b < w.heap.size) t ms := RowsOk.chg hX6 (fun b cs hb _ he => by obtain ⟨cs2, hb2⟩ := hT5.blk; exact hb.ne hb2 (by decide) he) (fun b cs hb he => by obtain ⟨cs2, hb2⟩ := hT5.blk; exact hb.ne hb2 (by decide) he) t ms
    (RowsOk.chg hX5 (fun _ _ _ _ => id) (fun _ _ _ => id) t ms hR3)
  have hgo : w.heap.size ≤ b' ∧ b' ≠ b7 := ⟨hge b' rfl, by have := hO3.lt (k := b') rfl; omega⟩
  have hge6 : ∀ k, (Value.slice (some ⟨b', 0, none⟩) ms.length co).ownBlock = some k → w.heap.size ≤ k ∧ k ≠ b7 := fun k hk => by simp only [Value.ownBlock, Option.some.injEq] at hk; subst hk; exact hgo
  have hb'6 : b' < y6.heap.size := hO6.lt rfl
  have hb7lt : b7 < y6.heap.size := hb76.lt
  have hfin : ∀ {u : World}, Chg y6 u (fun z => z = bt ∨ z = b7) → Own u 38 5 (.slice (some ⟨b', 0, none⟩) ms.length co) ms.length (encM ms) ∧
      RowsOk u (fun b => (Value.slice (some ⟨b', 0, none⟩) ms.length co).ownBlock ≠ some b ∧ ob b ∧ b < w.heap.size) t ms ∧
      TreeOk u (fun b => (Value.slice (some ⟨b', 0, none⟩) ms.length co).ownBlock ≠ some b ∧ ob b ∧ b < w.heap.size) (.slice A4 k.len c4) k ∧ AtS u (.slice A2 x.attrs.length c2) x.attrs ∧ Chg w u (· = bt) := fun {u} hS => by
    obtain ⟨cs2, hb2⟩ := hT6.blk
    have e8 : ∀ b cells, Blk y6 b 38 cells → ((Value.slice (some ⟨b', 0, none⟩) ms.length co).ownBlock ≠ some b ∧ ob b ∧ b < w.heap.size) → ¬ (b = bt ∨ b = b7) := fun b cells hb ho he => by
      rcases he with he | he
      · exact hb.ne hb2 (by decide) he
      · have := ho.2.2; omega
    have e3 : ∀ b cells, Blk y6 b 33 cells → ¬ (b = bt ∨ b = b7) := fun b cells hb he => by
      rcases he with he | he
      · exact hb.ne hb2 (by decide) he
      · exact hb.ne hb76 (by decide) he
    refine ⟨hO6.chg hS (fun k hk he => ?_), RowsOk.chg hS e8 e3 t ms hR6, hK6.chg hS e8 e3, RdS.chgAt hA6 hS (fun _ b cells _ hb => e3 b cells hb), hX06.trans hS (fun z hz he => ?_)⟩
    · rcases he with he | he
      · exact hO6.ne hk hb2 (by decide) he
      · exact (hge6 k hk).2 he
    · rcases he with he | he
      · exact he
      · omega
  have hweakR : ∀ {u : World}, RowsOk u (fun b => (Value.slice (some ⟨b', 0, none⟩) ms.length co).ownBlock ≠ some b ∧ ob b ∧ b < w.heap.size) t ms → RowsOk u (fun b => (Value.slice (some ⟨b', 0, none⟩) ms.length co).ownBlock ≠ some b ∧ (ob b ∨ w.heap.size ≤ b)) t ms := fun {u} h => RowsOk.mono (fun b _ h => ⟨h.1, .inl h.2.1⟩) t ms h
  have hweakK : ∀ {u : World} {v : Value} {k : AT}, TreeOk u (fun b => (Value.slice (some ⟨b', 0, none⟩) ms.length co).ownBlock ≠ some b ∧ ob b ∧ b < w.heap.size) v k → TreeOk u (fun b => (Value.slice (some ⟨b', 0, none⟩) ms.length co).ownBlock ≠ some b ∧ (ob b ∨ w.heap.size ≤ b)) v k := fun {u v k} h => h.mono (fun b _ h => ⟨h.1, .inl h.2.1⟩)
  have hno : ∀ {u1 u : World}, Chg u1 u No → Chg u1 u (fun z => z = bt ∨ z = b7) := fun h => h.mono (fun _ _ h => h.elim)
  have h7w : ∀ {u1 u : World}, Chg u1 u (· = b7) → Chg u1 u (fun z => z = bt ∨ z = b7) := fun h => h.mono (fun _ _ h => .inr h)
  have htw : ∀ {u1 u : World}, Chg u1 u (· = bt) → Chg u1 u (fun z => z = bt ∨ z = b7) := fun h => h.mono (fun _ _ h => .inl h)
  have hjoin : ∀ {u1 u2 u : World}, Chg u1 u2 (fun z => z = bt ∨ z = b7) → Chg u2 u (fun z => z = bt ∨ z = b7) → Chg u1 u (fun z => z = bt ∨ z = b7) := fun h h' => h.trans h' (fun _ _ h => h)
  have htp7 : ∀ {u1 u2 : World}, Tp u1 B bt → Chg u1 u2 (· = b7) → Tp u2 B bt := fun h h' => h.oth h' (fun he => by omega) (fun k _ hk => by omega)
  have hl6 : x.attrs.length ≤ 300000000000 := by have := attrs_cnt x.attrs; unfold wtH at hwx; omega
  have hkl : k.len ≤ 300000000000 := by have := len_wt k; unfold wtH at hwx; omega
  have hml : ms.length ≤ 300000000000 := by omega
  have hxt : x.text.length ≤ 300000000000 := by unfold wtH at hwx; omega
  by_cases hq0 : kk = 0
  · subst hq0
    refine zc_block ?_
    refine zc_seq ?_
    refine zc_region ?_
    refine z_cmpB (r := true) want_none (by decide) rfl rfl rfl (iff_of_true rfl (by omega)) ?_
    refine zl_pureL rfl ?_
    refine zl_nil ?_
    refine zk_seq ?_
    refine zc_true rfl ?_
    refine zc_region ?_
    refine zl_call (by first | exact want_none | exact want_L rfl) rfl (by decide) rfl (wordsR_calls (l := lnV) (by decide)) ?_
    rintro _ u1 ⟨vn, rfl, hn1, hCb⟩
    refine ⟨_, rfl, ?_⟩
    rw [show wordsN [] lnV = lnT from rfl, lnT_len, cellsS_strs] at hn1
    have hTb := hT6.no hCb
    obtain ⟨bn, on, cn, hvn, _, _⟩ := RdS.some hn1.rd (by omega)
    subst hvn
    refine zl_pureL rfl ?_
    refine zl_call (by first | exact want_none | exact want_L rfl) rfl (by decide) rfl (next_calls hTb 13 (by decide) (by decide) rfl) ?_
    rintro _ u2 ⟨⟨j, hj, rfl⟩, hTc, hCc⟩
    refine ⟨_, rfl, ?_⟩
    have hn3 := RdS.tp hn1.rd hTb hCc (by decide)
    obtain ⟨bn', on', cn', hvn, _, hcn⟩ := RdS.some hn3 (by omega)
    cases hvn
    have hcj := hcn j _ (strs_get lnT j (by rw [lnT_len]; exact hj))
    have hnm := lnT_nm _ (getD_mem lnT j (by rw [lnT_len]; exact hj))
    generalize lnT.getD j [] = nm at hcj hnm
    have hb7u := keepT hTb hCc _ _ _ (by decide) (hb76.no hCb)
    refine z_ia (by first | exact want_none | exact want_L rfl) (by decide) rfl rfl (by omega) (by omega) ?_
    refine z_load1 (by first | exact want_none | exact want_L rfl) (by decide) rfl (cell_at hcj (by omega)) ?_
    refine z_fa want_none (by decide) rfl ?_
    refine z_store (by first | exact want_none | exact want_L rfl) rfl rfl rfl (by assumption) (by first | exact Nat.le_refl _ | simp [Value.cells]) (by simp [Value.cells, Value.oneCell']) (fun u3 hU3 => ?_)
    have hb7v : Blk u3 b7 38 [.string (bs nm), .slice A2 x.attrs.length c2, .string (bs x.text), .slice A3 m3 c3, .slice A4 k.len c4] := hU3.blk
    obtain ⟨f1, f2, f3, f4, f5⟩ := hfin (hjoin (hno hCb) (hjoin (htw hCc) (h7w hU3.chg)))
    refine zl_nil ?_
    refine zk_norm_block ?_
    exact zk_midX ⟨⟨nm, x.attrs, x.text⟩, k, _, _, _, _, ms, t, r⟩ ⟨hb7v, f4, ⟨_, _, _, rfl⟩, hweakK f3, f1, hweakR f2, hd, hge6, by simp only [wtH] at hwx ⊢; omega, htp7 hTc hU3.chg, f5⟩ ⟨rfl, rfl, rfl, rfl, trivial⟩
  by_cases hq1 : kk = 1
  · subst hq1
    refine zc_block ?_
    refine zc_seq ?_
    refine zc_region ?_
    refine z_cmpB (r := false) want_none (by decide) rfl rfl rfl (iff_of_false Bool.false_ne_true (by omega)) ?_
    refine zl_pureL rfl ?_
    refine zl_nil ?_
    refine zk_seq ?_
    refine zc_false rfl ?_
    refine zc_seq ?_
    refine zc_region ?_
    refine z_cmpB (r := true) want_none (by decide) rfl rfl rfl (iff_of_true rfl (by omega)) ?_
    refine zl_pureL rfl ?_
    refine zl_nil ?_
    refine zk_seq ?_
    refine zc_true rfl ?_
    refine zc_region ?_
    refine z_fa want_none (by decide) rfl ?_
    refine z_store (by first | exact want_none | exact want_L rfl) rfl rfl rfl (by assumption) (by first | exact Nat.le_refl _ | simp [Value.cells]) (by simp [Value.cells, Value.oneCell']) (fun u3 hU3 => ?_)
    have hb7v : Blk u3 b7 38 [.string (bs x.name), .slice A2 x.attrs.length c2, .string (bs x.text), .slice A3 m3 c3, nS] := hU3.blk
    obtain ⟨f1, f2, f3, f4, f5⟩ := hfin (h7w hU3.chg)
    refine zl_nil ?_
    refine zk_norm_block ?_
    exact zk_midX ⟨x, .nil, _, _, _, _, ms, t, r⟩ ⟨hb7v, f4, ⟨_, _, _, rfl⟩, TreeOk.nil, f1, hweakR f2, hd, hge6, by simp only [wtH, AT.wt] at hwx ⊢; omega, htp7 hT6 hU3.chg, f5⟩ ⟨rfl, rfl, rfl, rfl, trivial⟩
  by_cases hq2 : kk = 2
  · subst hq2
    refine zc_block ?_
    refine zc_seq ?_
    refine zc_region ?_
    refine z_cmpB (r := false) want_none (by decide) rfl rfl rfl (iff_of_false Bool.false_ne_true (by omega)) ?_
    refine zl_pureL rfl ?_
    refine zl_nil ?_
    refine zk_seq ?_
    refine zc_false rfl ?_
    refine zc_seq ?_
    refine zc_region ?_
    refine z_cmpB (r := false) want_none (by decide) rfl rfl rfl (iff_of_false Bool.false_ne_true (by omega)) ?_
    refine zl_pureL rfl ?_
    refine zl_nil ?_
    refine zk_seq ?_
    refine zc_false rfl ?_
    refine zc_seq ?_
    refine zc_region ?_
    refine z_cmpB (r := true) want_none (by decide) rfl rfl rfl (iff_of_true rfl (by omega)) ?_
    refine zl_pureL rfl ?_
    refine zl_nil ?_
    refine zk_seq ?_
    refine zc_true rfl ?_
    refine zc_region ?_
    refine z_fa want_none (by decide) rfl ?_
    refine z_loadB want_none (by decide) rfl (by assumption) (by rfl) ?_
    refine z_catL want_none (by decide) rfl rfl (by simp only [List.length_append, List.length_cons, List.length_nil]; omega) ?_
    refine z_fa want_none (by decide) rfl ?_
    refine z_store (by first | exact want_none | exact want_L rfl) rfl rfl rfl (by assumption) (by first | exact Nat.le_refl _ | simp [Value.cells]) (by simp [Value.cells, Value.oneCell']) (fun u3 hU3 => ?_)
    have hb7v : Blk u3 b7 38 [.string (bs x.name), .slice A2 x.attrs.length c2, .string (bs (x.text ++ [0])), .slice A3 m3 c3, .slice A4 k.len c4] := hU3.blk
    obtain ⟨f1, f2, f3, f4, f5⟩ := hfin (h7w hU3.chg)
    refine zl_nil ?_
    refine zk_norm_block ?_
    exact zk_midX ⟨⟨x.name, x.attrs, x.text ++ [0]⟩, k, _, _, _, _, ms, t, r⟩ ⟨hb7v, f4, ⟨_, _, _, rfl⟩, hweakK f3, f1, hweakR f2, hd, hge6, by simp only [wtH, List.length_append, List.length_cons, List.length_nil] at hwx ⊢; omega, htp7 hT6 hU3.chg, f5⟩ ⟨rfl, rfl, rfl, rfl, trivial⟩
  by_cases hq3 : kk = 3
  · subst hq3
    refine zc_block ?_
    refine zc_seq ?_
    refine zc_region ?_
    refine z_cmpB (r := false) want_none (by decide) rfl rfl rfl (iff_of_false Bool.false_ne_true (by omega)) ?_
    refine zl_pureL rfl ?_
    refine zl_nil ?_
    refine zk_seq ?_
    refine zc_false rfl ?_
    refine zc_seq ?_
    refine zc_region ?_
    refine z_cmpB (r := false) want_none (by decide) rfl rfl rfl (iff_of_false Bool.false_ne_true (by omega)) ?_
    refine zl_pureL rfl ?_
    refine zl_nil ?_
    refine zk_seq ?_
    refine zc_false rfl ?_
    refine zc_seq ?_
    refine zc_region ?_
    refine z_cmpB (r := false) want_none (by decide) rfl rfl rfl (iff_of_false Bool.false_ne_true (by omega)) ?_
    refine zl_pureL rfl ?_
    refine zl_nil ?_
    refine zk_seq ?_
    refine zc_false rfl ?_
    refine zc_seq ?_
    refine zc_region ?_
    refine z_cmpB (r := true) want_none (by decide) rfl rfl rfl (iff_of_true rfl (by omega)) ?_
    refine zl_pureL rfl ?_
    refine zl_nil ?_
    refine zk_seq ?_
    refine zc_true rfl ?_
    refine zc_region ?_
    refine z_bs0 (by first | exact want_none | exact want_L rfl) (by decide) (fun u1 c1 hM1 => ?_)
    have hE2 : Own u1 33 2 (.slice (some ⟨c1, 0, none⟩) 0 0) 0 [] := Own.empty hM1
    have hb71 := hb76.no hM1.chg
    refine z_fa want_none (by decide) rfl ?_
    refine z_loadB want_none (by decide) rfl (by assumption) (by rfl) ?_
    refine z_appendO (by rfl) (by decide) (by first | exact want_none | exact want_L rfl) (by decide) rfl rfl hE2 (RdS.no hA6 hM1.chg) (by omega) (by omega) (fun va u2 hOa hXa hra => ?_)
    have hX2' : Chg y6 u2 No := hM1.chg.trans hXa (fun k hk he => by simp only [Value.ownBlock, Option.some.injEq] at he; have := hM1.at_; omega)
    have hb72 := hb76.no hX2'
    rw [List.nil_append, Nat.zero_add] at hOa
    refine z_buildE #[.string (bs [111, 110, 99, 108, 105, 99, 107]), .string (bs [120])] (by first | exact want_none | exact want_L rfl) (by decide) rfl (by kernel_rfl) ?_
    refine z_bsE (encA [([111, 110, 99, 108, 105, 99, 107], [120])]) (by first | exact want_none | exact want_L rfl) (by decide) rfl (by decide) (by decide) (by kernel_rfl) (fun u3 c3' hM3 => ?_)
    have hr3 : RdS u3 33 2 (.slice (some ⟨c3', 0, none⟩) 1 1) 1 (encA [([111, 110, 99, 108, 105, 99, 107], [120])]) := RdS.new hM3 rfl (encA_one _)
    have hgea : ∀ k, va.ownBlock = some k → y6.heap.size ≤ k := fun k hk => by
      rcases hra with e1 | ⟨q, e1, e2⟩
      · rw [e1] at hk; simp only [Value.ownBlock, Option.some.injEq] at hk; have := hM1.at_; omega
      · rw [hk] at e1; cases e1; have := hM1.chg.size; omega
    refine z_appendO (by rfl) (by decide) (by first | exact want_none | exact want_L rfl) (by decide) rfl rfl (hOa.no hM3.chg) hr3 (by omega) (by omega) (fun vb u4 hOb hXb hrb => ?_)
    have hX4' : Chg y6 u4 No := (hX2'.no hM3.chg).trans hXb (fun k hk he => by have := hgea k he; omega)
    have hb74' := hb76.no hX4'
    have hOb' : Own u4 33 2 vb (x.attrs ++ [([111, 110, 99, 108, 105, 99, 107], [120])]).length (encA (x.attrs ++ [([111, 110, 99, 108, 105, 99, 107], [120])])) := by rw [List.length_append, encA_app]; exact hOb
    obtain ⟨Ab, cb, hvb, _⟩ := hOb'.rd.form
    subst hvb
    refine z_fa want_none (by decide) rfl ?_
    refine z_store (by first | exact want_none | exact want_L rfl) rfl rfl rfl (by assumption) (by first | exact Nat.le_refl _ | simp [Value.cells]) (by simp [Value.cells, Value.oneCell']) (fun u5 hU5' => ?_)
    have hb7v : Blk u5 b7 38 [.string (bs x.name), .slice Ab (x.attrs ++ [([111, 110, 99, 108, 105, 99, 107], [120])]).length cb, .string (bs x.text), .slice A3 m3 c3, .slice A4 k.len c4] := hU5'.blk
    obtain ⟨f1, f2, f3, f4, f5⟩ := hfin (hjoin (hno hX4') (h7w hU5'.chg))
    have hOc := hOb'.upd hU5' (by decide)
    refine zl_nil ?_
    refine zk_norm_block ?_
    exact zk_midX ⟨⟨x.name, x.attrs ++ [([111, 110, 99, 108, 105, 99, 107], [120])], x.text⟩, k, _, _, _, _, ms, t, r⟩ ⟨hb7v, hOc.rd, ⟨_, _, _, rfl⟩, hweakK f3, f1, hweakR f2, hd, hge6, by simp only [wtH, attrsN_app, attrsN, List.length_cons, List.length_nil] at hwx ⊢; omega, htp7 (hT6.no hX4') hU5'.chg, f5⟩ ⟨rfl, rfl, rfl, rfl, trivial⟩
  by_cases hq4 : kk = 4
  · subst hq4
    obtain ⟨mk, hrk, hok, hRk⟩ := hK6
    have hlk := Rows.len k mk (RowsOk.rows k mk hRk)
    refine zc_block ?_
    refine zc_seq ?_
    refine zc_region ?_
    refine z_cmpB (r := false) want_none (by decide) rfl rfl rfl (iff_of_false Bool.false_ne_true (by omega)) ?_
    refine zl_pureL rfl ?_
    refine zl_nil ?_
    refine zk_seq ?_
    refine zc_false rfl ?_
    refine zc_seq ?_
    refine zc_region ?_
    refine z_cmpB (r := false) want_none (by decide) rfl rfl rfl (iff_of_false Bool.false_ne_true (by omega)) ?_
    refine zl_pureL rfl ?_
    refine zl_nil ?_
    refine zk_seq ?_
    refine zc_false rfl ?_
    refine zc_seq ?_
    refine zc_region ?_
    refine z_cmpB (r := false) want_none (by decide) rfl rfl rfl (iff_of_false Bool.false_ne_true (by omega)) ?_
    refine zl_pureL rfl ?_
    refine zl_nil ?_
    refine zk_seq ?_
    refine zc_false rfl ?_
    refine zc_seq ?_
    refine zc_region ?_
    refine z_cmpB (r := false) want_none (by decide) rfl rfl rfl (iff_of_false Bool.false_ne_true (by omega)) ?_
    refine zl_pureL rfl ?_
    refine zl_nil ?_
    refine zk_seq ?_
    refine zc_false rfl ?_
    refine zc_seq ?_
    refine zc_region ?_
    refine z_cmpB (r := true) want_none (by decide) rfl rfl rfl (iff_of_true rfl (by omega)) ?_
    refine zl_pureL rfl ?_
    refine zl_nil ?_
    refine zk_seq ?_
    refine zc_true rfl ?_
    refine zc_region ?_
    refine z_bs0 (by first | exact want_none | exact want_L rfl) (by decide) (fun u1 c1 hM1 => ?_)
    have hE2 : Own u1 38 5 (.slice (some ⟨c1, 0, none⟩) 0 0) 0 [] := Own.empty hM1
    have hb71 := hb76.no hM1.chg
    refine z_fa want_none (by decide) rfl ?_
    refine z_loadB want_none (by decide) rfl (by assumption) (by rfl) ?_
    refine z_appendO (by rfl) (by decide) (by first | exact want_none | exact want_L rfl) (by decide) rfl rfl hE2 (RdS.no hrk hM1.chg) (by omega) (by omega) (fun va u2 hOa hXa hra => ?_)
    have hX2' : Chg y6 u2 No := hM1.chg.trans hXa (fun k hk he => by simp only [Value.ownBlock, Option.some.injEq] at he; have := hM1.at_; omega)
    rw [List.nil_append, Nat.zero_add] at hOa
    refine z_buildE #[.string (bs []), nS, .string (bs [120]), nS, nS] (by first | exact want_none | exact want_L rfl) (by decide) rfl (by kernel_rfl) ?_
    refine z_bsE (encM [mX]) (by first | exact want_none | exact want_L rfl) (by decide) rfl (by decide) (by decide) (by kernel_rfl) (fun u3 c3' hM3 => ?_)
    have hr3 : RdS u3 38 5 (.slice (some ⟨c3', 0, none⟩) 1 1) 1 (encM [mX]) := RdS.art (x := ⟨[], [], [120]⟩) ⟨rfl, AtS.nil _, rfl, isSl_nil⟩ (TreeOk.nil (o := fun _ => True)) hM3
    have hgea : ∀ k, va.ownBlock = some k → y6.heap.size ≤ k := fun k hk => by
      rcases hra with e1 | ⟨q, e1, e2⟩
      · rw [e1] at hk; simp only [Value.ownBlock, Option.some.injEq] at hk; have := hM1.at_; omega
      · rw [hk] at e1; cases e1; have := hM1.chg.size; omega
    refine z_appendO (by rfl) (by decide) (by first | exact want_none | exact want_L rfl) (by decide) rfl rfl (hOa.no hM3.chg) hr3 (by omega) (by omega) (fun vb u4 hOb hXb hrb => ?_)
    have hX4' : Chg y6 u4 No := (hX2'.no hM3.chg).trans hXb (fun k hk he => by have := hgea k he; omega)
    have hb74' := hb76.no hX4'
    have hgeb : ∀ k, vb.ownBlock = some k → y6.heap.size ≤ k := fun k hk => by
      rcases hrb with e1 | ⟨q, e1, e2⟩
      · exact hgea k (e1 ▸ hk)
      · rw [hk] at e1; cases e1; have := (hX2'.no hM3.chg).size; omega
    have hOb' : Own u4 38 5 vb (mk ++ [mX]).length (encM (mk ++ [mX])) := by rw [List.length_append, encM_app]; exact hOb
    have hKn : TreeOk u4 (fun b => (Value.slice (some ⟨b', 0, none⟩) ms.length co).ownBlock ≠ some b ∧ ((ob b ∧ b < w.heap.size) ∨ y6.heap.size ≤ b)) vb (k.snoc ⟨[], [], [120]⟩ .nil) :=
      ⟨mk ++ [mX], hOb'.rd, fun _ b hb => ⟨fun he => by simp only [Value.ownBlock, Option.some.injEq] at he; have := hgeb b hb; omega, .inr (hgeb b hb)⟩,
        RowsOk.snoc ⟨rfl, AtS.nil _, rfl, isSl_nil⟩ TreeOk.nil k mk (RowsOk.mono (fun b _ h => ⟨h.1, .inl h.2⟩) k mk (RowsOk.chg hX4' (fun _ _ _ _ => id) (fun _ _ _ => id) k mk hRk))⟩
    have hwk : (k.snoc ⟨[], [], [120]⟩ .nil).wt = k.wt + 16 := by unfold AT.snoc; rw [AT.app_wt]; rfl
    obtain ⟨Ab, cb, hvb, _⟩ := hKn.form
    subst hvb
    refine z_fa want_none (by decide) rfl ?_
    refine z_store (by first | exact want_none | exact want_L rfl) rfl rfl rfl (by assumption) (by first | exact Nat.le_refl _ | simp [Value.cells]) (by simp [Value.cells, Value.oneCell']) (fun u5 hU5' => ?_)
    have hb7v : Blk u5 b7 38 [.string (bs x.name), .slice A2 x.attrs.length c2, .string (bs x.text), .slice A3 m3 c3, .slice Ab (k.snoc ⟨[], [], [120]⟩ .nil).len cb] := hU5'.blk
    obtain ⟨f1, f2, f3, f4, f5⟩ := hfin (hjoin (hno hX4') (h7w hU5'.chg))
    have hKn5 := (hKn.chg hU5'.chg (fun b cells hb ho he => by have := ho.2; omega) (fun b cells hb he => hb.ne hb74' (by decide) he)).mono (o' := fun b => (Value.slice (some ⟨b', 0, none⟩) ms.length co).ownBlock ≠ some b ∧ (ob b ∨ w.heap.size ≤ b)) (fun b _ h => ⟨h.1, h.2.elim (fun h => .inl h.1) (fun h => .inr (by omega))⟩)
    refine zl_nil ?_
    refine zk_norm_block ?_
    exact zk_midX ⟨x, k.snoc ⟨[], [], [120]⟩ .nil, _, _, _, _, ms, t, r⟩ ⟨hb7v, f4, ⟨_, _, _, rfl⟩, hKn5, f1, hweakR f2, hd, hge6, by simp only [wtH, hwk] at hwx ⊢; omega, htp7 (hT6.no hX4') hU5'.chg, f5⟩ ⟨rfl, rfl, rfl, rfl, trivial⟩
  by_cases hq5 : kk = 5
  · subst hq5
    refine zc_block ?_
    refine zc_seq ?_
    refine zc_region ?_
    refine z_cmpB (r := false) want_none (by decide) rfl rfl rfl (iff_of_false Bool.false_ne_true (by omega)) ?_
    refine zl_pureL rfl ?_
    refine zl_nil ?_
    refine zk_seq ?_
    refine zc_false rfl ?_
    refine zc_seq ?_
    refine zc_region ?_
    refine z_cmpB (r := false) want_none (by decide) rfl rfl rfl (iff_of_false Bool.false_ne_true (by omega)) ?_
    refine zl_pureL rfl ?_
    refine zl_nil ?_
    refine zk_seq ?_
    refine zc_false rfl ?_
    refine zc_seq ?_
    refine zc_region ?_
    refine z_cmpB (r := false) want_none (by decide) rfl rfl rfl (iff_of_false Bool.false_ne_true (by omega)) ?_
    refine zl_pureL rfl ?_
    refine zl_nil ?_
    refine zk_seq ?_
    refine zc_false rfl ?_
    refine zc_seq ?_
    refine zc_region ?_
    refine z_cmpB (r := false) want_none (by decide) rfl rfl rfl (iff_of_false Bool.false_ne_true (by omega)) ?_
    refine zl_pureL rfl ?_
    refine zl_nil ?_
    refine zk_seq ?_
    refine zc_false rfl ?_
    refine zc_seq ?_
    refine zc_region ?_
    refine z_cmpB (r := false) want_none (by decide) rfl rfl rfl (iff_of_false Bool.false_ne_true (by omega)) ?_
    refine zl_pureL rfl ?_
    refine zl_nil ?_
    refine zk_seq ?_
    refine zc_false rfl ?_
    refine zc_seq ?_
    refine zc_region ?_
    refine z_cmpB (r := true) want_none (by decide) rfl rfl rfl (iff_of_true rfl (by omega)) ?_
    refine zl_pureL rfl ?_
    refine zl_nil ?_
    refine zk_seq ?_
    refine zc_true rfl ?_
    refine zc_region ?_
    refine zl_pureL rfl ?_
    refine z_loadAB want_none (by decide) rfl (by assumption) (by rfl) ?_
    refine z_bsE (encM [⟨x.name, .slice A2 x.attrs.length c2, x.text, .slice A3 m3 c3, .slice A4 k.len c4⟩]) (by first | exact want_none | exact want_L rfl) (by decide) rfl (by decide) (by simp [encM, Value.oneCell']) (by kernel_rfl) (fun u1 c1 hM1 => ?_)
    have hx1 : HO y6 ⟨x.name, .slice A2 x.attrs.length c2, x.text, .slice A3 m3 c3, .slice A4 k.len c4⟩ x := ⟨rfl, hA6, rfl, ⟨_, _, _, rfl⟩⟩
    have hr1 := RdS.art hx1 hK6 hM1
    have hb71 := hb76.no hM1.chg
    refine z_appendO (by rfl) (by decide) (by first | exact want_none | exact want_L rfl) (by decide) rfl rfl (hO6.no hM1.chg) hr1 (by omega) (by omega) (fun va u2 hOa hXa hra => ?_)
    have hgea : ∀ k, va.ownBlock = some k → w.heap.size ≤ k ∧ k ≠ b7 := fun k hk => by
      rcases hra with e1 | ⟨q, e1, e2⟩
      · exact hge6 k (e1 ▸ hk)
      · rw [hk] at e1; cases e1; have := hM1.chg.size; omega
    have hO61 := hO6.no hM1.chg
    have hb72 : Blk u2 b7 38 [.string (bs x.name), .slice A2 x.attrs.length c2, .string (bs x.text), .slice A3 m3 c3, .slice A4 k.len c4] := hb71.chg hXa (fun he => (hge6 _ he).2 rfl)
    have hRn := RowsOk.chg hXa (fun b cs hb ho => ho.1) (fun b cs hb he => hO61.ne he hb (by decide) rfl) _ _ (RowsOk.chg hM1.chg (fun _ _ _ _ => id) (fun _ _ _ => id) _ _ (RowsOk.snoc hx1 hK6 t ms hR6))
    have hKn := (hK6.no hM1.chg).chg hXa (fun b cs hb ho => ho.1) (fun b cs hb he => hO61.ne he hb (by decide) rfl)
    have hAn : AtS u2 (.slice A2 x.attrs.length c2) x.attrs := RdS.chgAt (RdS.no hA6 hM1.chg) hXa (fun _ b cs _ hb he => hO61.ne he hb (by decide) rfl)
    have hw' : ∀ b, ((Value.slice (some ⟨b', 0, none⟩) ms.length co).ownBlock ≠ some b ∧ ob b ∧ b < w.heap.size) → (va.ownBlock ≠ some b ∧ (ob b ∨ w.heap.size ≤ b)) := fun b h => ⟨fun he => by have := hgea b he; omega, .inl h.2.1⟩
    have hws : (t.snoc x k).wt = t.wt + wtH x k := by unfold AT.snoc wtH; rw [AT.app_wt]; simp only [AT.wt]; omega
    have hOa' : Own u2 38 5 va (ms ++ [(⟨x.name, .slice A2 x.attrs.length c2, x.text, .slice A3 m3 c3, .slice A4 k.len c4⟩ : MA)]).length (encM (ms ++ [(⟨x.name, .slice A2 x.attrs.length c2, x.text, .slice A3 m3 c3, .slice A4 k.len c4⟩ : MA)])) := by rw [List.length_append, encM_app]; exact hOa
    have hTn : Tp u2 B bt := (hT6.no hM1.chg).oth hXa (fun he => by obtain ⟨cs, hb⟩ := (hT6.no hM1.chg).blk; exact hO61.ne he hb (by decide) rfl) (fun k _ hk => by have := hge6 k hk; omega)
    have hCn : Chg w u2 (· = bt) := (hX06.no hM1.chg).trans hXa (fun k hk he => by have := hge6 k he; omega)
    refine zl_pureL rfl ?_
    refine zl_nil ?_
    refine zk_norm_block ?_
    exact zk_midX ⟨x, k, _, _, _, va, ms ++ [_], t.snoc x k, r.app (.cons x k .nil)⟩ ⟨hb72, hAn, ⟨_, _, _, rfl⟩, hKn.mono (fun b _ h => hw' b h), hOa', RowsOk.mono (fun b _ h => hw' b h) _ _ hRn, dropN_app i t _ x k r hd, hgea, by dsimp only; rw [hws]; omega, hTn, hCn⟩ ⟨rfl, rfl, rfl, rfl, trivial⟩
  by_cases hq6 : kk = 6
  · subst hq6
    by_cases hal : x.attrs.length = 0
    · refine zc_block ?_
      refine zc_seq ?_
      refine zc_region ?_
      refine z_cmpB (r := false) want_none (by decide) rfl rfl rfl (iff_of_false Bool.false_ne_true (by omega)) ?_
      refine zl_pureL rfl ?_
      refine zl_nil ?_
      refine zk_seq ?_
      refine zc_false rfl ?_
      refine zc_seq ?_
      refine zc_region ?_
      refine z_cmpB (r := false) want_none (by decide) rfl rfl rfl (iff_of_false Bool.false_ne_true (by omega)) ?_
      refine zl_pureL rfl ?_
      refine zl_nil ?_
      refine zk_seq ?_
      refine zc_false rfl ?_
      refine zc_seq ?_
      refine zc_region ?_
      refine z_cmpB (r := false) want_none (by decide) rfl rfl rfl (iff_of_false Bool.false_ne_true (by omega)) ?_
      refine zl_pureL rfl ?_
      refine zl_nil ?_
      refine zk_seq ?_
      refine zc_false rfl ?_
      refine zc_seq ?_
      refine zc_region ?_
      refine z_cmpB (r := false) want_none (by decide) rfl rfl rfl (iff_of_false Bool.false_ne_true (by omega)) ?_
      refine zl_pureL rfl ?_
      refine zl_nil ?_
      refine zk_seq ?_
      refine zc_false rfl ?_
      refine zc_seq ?_
      refine zc_region ?_
      refine z_cmpB (r := false) want_none (by decide) rfl rfl rfl (iff_of_false Bool.false_ne_true (by omega)) ?_
      refine zl_pureL rfl ?_
      refine zl_nil ?_
      refine zk_seq ?_
      refine zc_false rfl ?_
      refine zc_seq ?_
      refine zc_region ?_
      refine z_cmpB (r := false) want_none (by decide) rfl rfl rfl (iff_of_false Bool.false_ne_true (by omega)) ?_
      refine zl_pureL rfl ?_
      refine zl_nil ?_
      refine zk_seq ?_
      refine zc_false rfl ?_
      refine zc_seq ?_
      refine zc_region ?_
      refine z_cmpB (r := true) want_none (by decide) rfl rfl rfl (iff_of_true rfl (by omega)) ?_
      refine zl_pureL rfl ?_
      refine zl_nil ?_
      refine zk_seq ?_
      refine zc_true rfl ?_
      refine zc_seq ?_
      refine zc_region ?_
      refine z_fa want_none (by decide) rfl ?_
      refine z_loadB want_none (by decide) rfl (by assumption) (by rfl) ?_
      refine z_len want_none (by decide) rfl ?_
      refine z_cmpB (r := false) want_none (by decide) rfl rfl rfl (iff_of_false Bool.false_ne_true (by omega)) ?_
      refine zl_nil ?_
      refine zk_seq ?_
      refine zc_false rfl ?_
      refine zc_skip ?_
      refine zk_norm_block ?_
      obtain ⟨f1, f2, f3, f4, f5⟩ := hfin (hno (Chg.refl _ _))
      exact zk_midX ⟨x, k, _, _, _, _, ms, t, r⟩ ⟨hb76, f4, ⟨_, _, _, rfl⟩, hweakK f3, f1, hweakR f2, hd, hge6, by dsimp only; omega, hT6, f5⟩ ⟨rfl, rfl, rfl, rfl, trivial⟩
    · obtain ⟨a0, al, hxa⟩ : ∃ a0 al, x.attrs = a0 :: al := by
        rcases hx : x.attrs with _ | ⟨a0, al⟩
        · exact absurd (by rw [hx]; rfl) hal
        · exact ⟨a0, al, rfl⟩
      obtain ⟨ba, oa, ca, hva, hca', hcel⟩ := RdS.some hA6 (by omega)
      cases hva
      have hc0 := hcel 0 (.string (bs a0.1)) (by rw [hxa]; rfl)
      refine zc_block ?_
      refine zc_seq ?_
      refine zc_region ?_
      refine z_cmpB (r := false) want_none (by decide) rfl rfl rfl (iff_of_false Bool.false_ne_true (by omega)) ?_
      refine zl_pureL rfl ?_
      refine zl_nil ?_
      refine zk_seq ?_
      refine zc_false rfl ?_
      refine zc_seq ?_
      refine zc_region ?_
      refine z_cmpB (r := false) want_none (by decide) rfl rfl rfl (iff_of_false Bool.false_ne_true (by omega)) ?_
      refine zl_pureL rfl ?_
      refine zl_nil ?_
      refine zk_seq ?_
      refine zc_false rfl ?_
      refine zc_seq ?_
      refine zc_region ?_
      refine z_cmpB (r := false) want_none (by decide) rfl rfl rfl (iff_of_false Bool.false_ne_true (by omega)) ?_
      refine zl_pureL rfl ?_
      refine zl_nil ?_
      refine zk_seq ?_
      refine zc_false rfl ?_
      refine zc_seq ?_
      refine zc_region ?_
      refine z_cmpB (r := false) want_none (by decide) rfl rfl rfl (iff_of_false Bool.false_ne_true (by omega)) ?_
      refine zl_pureL rfl ?_
      refine zl_nil ?_
      refine zk_seq ?_
      refine zc_false rfl ?_
      refine zc_seq ?_
      refine zc_region ?_
      refine z_cmpB (r := false) want_none (by decide) rfl rfl rfl (iff_of_false Bool.false_ne_true (by omega)) ?_
      refine zl_pureL rfl ?_
      refine zl_nil ?_
      refine zk_seq ?_
      refine zc_false rfl ?_
      refine zc_seq ?_
      refine zc_region ?_
      refine z_cmpB (r := false) want_none (by decide) rfl rfl rfl (iff_of_false Bool.false_ne_true (by omega)) ?_
      refine zl_pureL rfl ?_
      refine zl_nil ?_
      refine zk_seq ?_
      refine zc_false rfl ?_
      refine zc_seq ?_
      refine zc_region ?_
      refine z_cmpB (r := true) want_none (by decide) rfl rfl rfl (iff_of_true rfl (by omega)) ?_
      refine zl_pureL rfl ?_
      refine zl_nil ?_
      refine zk_seq ?_
      refine zc_true rfl ?_
      refine zc_seq ?_
      refine zc_region ?_
      refine z_fa want_none (by decide) rfl ?_
      refine z_loadB want_none (by decide) rfl (by assumption) (by rfl) ?_
      refine z_len want_none (by decide) rfl ?_
      refine z_cmpB (r := true) want_none (by decide) rfl rfl rfl (iff_of_true rfl (by omega)) ?_
      refine zl_nil ?_
      refine zk_seq ?_
      refine zc_true rfl ?_
      refine zc_draw [12] (fun w' => Chg y6 w' No ∧ Blk w' b7 38 [.string (bs x.name), .slice (some ⟨ba, oa, none⟩) x.attrs.length c2, .string (bs x.text), .slice A3 m3 c3, .slice A4 k.len c4]) (.take 0 (.take 1 (.take 2 (.take 3 (.take 4 (.take 5 (.take 7 (.take 8 (.take 9 (.all1 6 (.all1 10 (.take 11 (.last 12))))))))))))) (by rfl) (by kernel_rfl) (by kernel_rfl) (fun z1 hZ1 _ => ⟨?_, ?_⟩)
      · exact ⟨hZ1, hb76.no hZ1⟩
      have hb7z := hb76.no hZ1
      refine zs_rdL rfl want_none rfl (by decide) (fun _ hS => r_fa rfl) ?_
      refine zs_rdL rfl want_none rfl (by decide) (fun _ hS => r_loadB rfl hS.2 (by rfl)) ?_
      refine zs_rdL rfl want_none rfl (by decide) (fun _ hS => r_ia rfl rfl (by omega) (by omega)) ?_
      refine zs_rdL rfl want_none rfl (by decide) (fun _ hS => r_fa rfl) ?_
      refine zs_rdL rfl (by first | exact want_none | exact want_L rfl) rfl (by decide) (fun _ hS => r_load1 rfl (cell_at (cell_keep hS.1 hc0) (by omega))) ?_
      skip
      refine zs_rdL rfl (by first | exact want_none | exact want_L rfl) rfl (by decide) (fun _ hS => r_build' (cells := #[.string (bs a0.1), .string (bs sJv)]) rfl (by kernel_rfl)) ?_
      refine zs_rdL rfl want_none rfl (by decide) (fun _ hS => r_fa rfl) ?_
      refine zs_rdL rfl want_none rfl (by decide) (fun _ hS => r_loadB rfl hS.2 (by rfl)) ?_
      refine zs_rdL rfl (by first | exact want_none | exact want_L rfl) rfl (by decide) (fun _ hS => r_cutFrom (k := 1) rfl rfl (by omega) (by omega)) ?_
      refine zs_bsE (encA [(a0.1, sJv)]) rfl (by first | exact want_none | exact want_L rfl) (by decide) rfl (by decide) (by decide) (by kernel_rfl) (fun z2 c1 hM2 => ?_)
      have hX2 : Chg y6 z2 No := hZ1.no hM2.chg
      have hb72 := hb7z.no hM2.chg
      refine ⟨⟨hX2, hb72⟩, ?_⟩
      have hOn : Own z2 33 2 (.slice (some ⟨c1, 0, none⟩) 1 1) 1 (encA [(a0.1, sJv)]) := Own.mk' (junk := []) rfl (Nat.le_refl _) (by decide) (by rw [List.append_nil]; exact hM2.blk) rfl (encA_one _)
      have hrc := (RdS.cut hA6 (k := 1) (by omega)).no hX2
      refine zs_appendO rfl (by rfl) (by decide) (by first | exact want_none | exact want_L rfl) (by decide) rfl rfl hOn hrc (by omega) (by omega) (fun v3 z3 hO3' hX3' hr3' => ?_)
      have hX3n : Chg y6 z3 No := hX2.trans hX3' (fun k hk he => by simp only [Value.ownBlock, Option.some.injEq] at he; have := hM2.at_; have := hZ1.size; omega)
      have hb73 := hb76.no hX3n
      refine ⟨⟨hX3n, hb73⟩, ?_⟩
      have hO3n : Own z3 33 2 v3 ((a0.1, sJv) :: al).length (encA ((a0.1, sJv) :: al)) := by
        have e1 : ((a0.1, sJv) :: al).length = 1 + (x.attrs.length - 1) := by rw [hxa]; simp only [List.length_cons]; omega
        have e2 : encA ((a0.1, sJv) :: al) = encA [(a0.1, sJv)] ++ (encA x.attrs).drop (1 * 2) := by rw [hxa]; rfl
        rw [e1, e2]; exact hO3'
      obtain ⟨Ab, cb, hvb, _⟩ := hO3n.rd.form
      subst hvb
      refine zs_rdL rfl want_none rfl (by decide) (fun _ hS => r_fa rfl) ?_
      refine zs_storeL rfl (by first | exact want_none | exact want_L rfl) rfl rfl rfl (by assumption) (by first | exact Nat.le_refl _ | simp [Value.cells]) (by simp [Value.cells, Value.oneCell']) (fun z4 hU4 => ?_)
      have hb7v : Blk z4 b7 38 [.string (bs x.name), .slice Ab ((a0.1, sJv) :: al).length cb, .string (bs x.text), .slice A3 m3 c3, .slice A4 k.len c4] := hU4.blk
      obtain ⟨f1, f2, f3, f4, f5⟩ := hfin (hjoin (hno hX3n) (h7w hU4.chg))
      have hOc := hO3n.upd hU4 (by decide)
      have hjl : sJv.length = 12 := rfl
      refine zk_norm_block ?_
      exact zk_midX ⟨⟨x.name, (a0.1, sJv) :: al, x.text⟩, k, _, _, _, _, ms, t, r⟩ ⟨hb7v, hOc.rd, ⟨_, _, _, rfl⟩, hweakK f3, f1, hweakR f2, hd, hge6, by simp only [wtH, hxa, attrsN, hjl] at hwx ⊢; omega, htp7 (hT6.no hX3n) hU4.chg, f5⟩ ⟨rfl, rfl, rfl, rfl, trivial⟩
  have hsz := t.drop_size i
  rw [hd] at hsz
  simp only [AT.size] at hsz
  obtain ⟨g, hg⟩ : ∃ g, f = g + 1 := ⟨f - 1, by omega⟩
  refine zc_block ?_
  refine zc_seq ?_
  refine zc_region ?_
  refine z_cmpB (r := false) want_none (by decide) rfl rfl rfl (iff_of_false Bool.false_ne_true (by omega)) ?_
  refine zl_pureL rfl ?_
  refine zl_nil ?_
  refine zk_seq ?_
  refine zc_false rfl ?_
  refine zc_seq ?_
  refine zc_region ?_
  refine z_cmpB (r := false) want_none (by decide) rfl rfl rfl (iff_of_false Bool.false_ne_true (by omega)) ?_
  refine zl_pureL rfl ?_
  refine zl_nil ?_
  refine zk_seq ?_
  refine zc_false rfl ?_
  refine zc_seq ?_
  refine zc_region ?_
  refine z_cmpB (r := false) want_none (by decide) rfl rfl rfl (iff_of_false Bool.false_ne_true (by omega)) ?_
  refine zl_pureL rfl ?_
  refine zl_nil ?_
  refine zk_seq ?_
  refine zc_false rfl ?_
  refine zc_seq ?_
  refine zc_region ?_
  refine z_cmpB (r := false) want_none (by decide) rfl rfl rfl (iff_of_false Bool.false_ne_true (by omega)) ?_
  refine zl_pureL rfl ?_
  refine zl_nil ?_
  refine zk_seq ?_
  refine zc_false rfl ?_
  refine zc_seq ?_
  refine zc_region ?_
  refine z_cmpB (r := false) want_none (by decide) rfl rfl rfl (iff_of_false Bool.false_ne_true (by omega)) ?_
  refine zl_pureL rfl ?_
  refine zl_nil ?_
  refine zk_seq ?_
  refine zc_false rfl ?_
  refine zc_seq ?_
  refine zc_region ?_
  refine z_cmpB (r := false) want_none (by decide) rfl rfl rfl (iff_of_false Bool.false_ne_true (by omega)) ?_
  refine zl_pureL rfl ?_
  refine zl_nil ?_
  refine zk_seq ?_
  refine zc_false rfl ?_
  refine zc_seq ?_
  refine zc_region ?_
  refine z_cmpB (r := false) want_none (by decide) rfl rfl rfl (iff_of_false Bool.false_ne_true (by omega)) ?_
  refine zl_pureL rfl ?_
  refine zl_nil ?_
  refine zk_seq ?_
  refine zc_false rfl ?_
  refine zc_region ?_
  refine z_fa want_none (by decide) rfl ?_
  refine z_loadB want_none (by decide) rfl (by assumption) (by rfl) ?_
  refine zl_pureL rfl ?_
  refine zl_call (by first | exact want_none | exact want_L rfl) rfl (by decide) rfl (ih g hg k (by omega) hT6 hK6 (by unfold wtH at hwx; omega)) ?_
  rintro _ u1 ⟨vk, k', rfl, hk', hkw, hT7, hX7⟩
  refine ⟨_, rfl, ?_⟩
  have hb7u := keepT hT6 hX7 _ _ _ (by decide) hb76
  obtain ⟨Ak, ck, rfl, _⟩ := hk'.form
  refine z_fa want_none (by decide) rfl ?_
  refine z_store (by first | exact want_none | exact want_L rfl) rfl rfl rfl (by assumption) (by first | exact Nat.le_refl _ | simp [Value.cells]) (by simp [Value.cells, Value.oneCell']) (fun u2 hU2 => ?_)
  have hb7v : Blk u2 b7 38 [.string (bs x.name), .slice A2 x.attrs.length c2, .string (bs x.text), .slice A3 m3 c3, .slice Ak k'.len ck] := hU2.blk
  obtain ⟨f1, f2, f3, f4, f5⟩ := hfin (hjoin (htw hX7) (h7w hU2.chg))
  have hKn := (hk'.chg hU2.chg (fun b cells hb ho he => by rcases ho with ho | ho <;> omega) (fun b cells hb he => hb.ne hb7u (by decide) he)).mono (o' := fun b => (Value.slice (some ⟨b', 0, none⟩) ms.length co).ownBlock ≠ some b ∧ (ob b ∨ w.heap.size ≤ b)) (fun b _ h => h.elim (fun h => ⟨h.1, .inl h.2.1⟩) (fun h => ⟨fun he => by simp only [Value.ownBlock, Option.some.injEq] at he; omega, .inr (by omega)⟩))
  refine zl_nil ?_
  refine zk_norm_block ?_
  exact zk_midX ⟨x, k', _, _, _, _, ms, t, r⟩ ⟨hb7v, f4, ⟨_, _, _, rfl⟩, hKn, f1, hweakR f2, hd, hge6, by simp only [wtH] at hwx ⊢; omega, htp7 hT7 hU2.chg, f5⟩ ⟨rfl, rfl, rfl, rfl, trivial⟩
theorem turn_all : ∀ f, TurnC f
  | 0 => turn_body 0 (fun g h => by omega)
  | f + 1 => turn_body (f + 1) (fun g h => by obtain rfl : g = f := by omega
                                              exact turn_all g)
theorem turn_calls {w : World} {B bt : Nat} {v : Value} (t : AT) (hT : Tp w B bt) (h : TreeAt true w v t) (hl : t.wt ≤ 300000000000) :
    Calls Try.prog 9 [v, .pointer (some ⟨bt, 0, none⟩)].toArray w fun e w' => ∃ v' t', e = .returned v' ∧ TreeAt true w' v' t' ∧ t'.wt ≤ 2 * t.wt + 200 ∧ Tp w' B bt ∧ Chg w w' (· = bt) :=
  (turn_all t.size t (Nat.le_refl _) hT h.ok hl).mono fun e w' ⟨v', t', h1, h2, h3, h4, h5⟩ => ⟨v', t', h1, h2.at', h3, h4, h5⟩
end Go.Proofs.Ytbcmiijollpgeaa.T
