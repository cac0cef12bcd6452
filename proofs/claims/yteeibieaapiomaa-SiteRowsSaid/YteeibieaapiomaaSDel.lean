import Derived.Test.YteeibieaapiomaaSIns
/- slices.Delete: one entry. -/
namespace Go.Z
open Go
section
variable {P : Program} {n : Nat} {e : Env} {w : World} {Q : Exit → Act → World → Prop} {ops : Array Oper} {rest : List Oper}
variable {d : Tmp} {ty : TypeId} {pos : String} {aft : Array Edge} {g : Option (Nat × Bool)}
/-- append where there is room, the row written known whole -/
theorem appendRoom_run {s x : Operand} {t el : TypeId} {sz k m m' cap b b' o' c' : Nat} {z : Value} {cur news : List Value} [hu : Und P t (.slice el)] [hz : Inf P el sz k z]
    (hs : ev e s = some (.slice (some ⟨b, 0, none⟩) m cap)) (hx : ev e x = some (.slice (some ⟨b', o', none⟩) m' c')) (hb : Blk w b el cur) (hl : news.length = m' * sz) (hnews : ∀ j u, news[j]? = some u → w.cell? ⟨b', o' + j, none⟩ = some u) (h1 : ∀ u ∈ news, u.oneCell' = true) (hroom : m + m' ≤ cap) (hfit : m * sz + news.length ≤ cur.length) :
    ∃ w', (∀ a, Ok n e a → (execOp a.eval (⟨some d, .call { callee := .builtin .append, args := #[s, x], argTypes := #[t, t] }, ty, pos, aft, g⟩ : Oper)).run P w = .ok (.value (.slice (some ⟨b, 0, none⟩) (m + m') cap)) w') ∧ Upd w w' b el (lay cur (m * sz) news) := by
  obtain ⟨i, hi1, hi2, hi3, hi4⟩ := hz.ex
  subst hi2
  have hr := run_append_room (P := P) w t ty el i hu.eq hi1 b m cap cur.toArray hb ⟨b', o', none⟩ m' c' news hl (fun j u hj => by rw [addr_add]; exact hnews j u hj) h1 hroom (by simpa using hfit)
  have hr2 : (Builtin.append_ #[t, t] ty #[.slice (some ⟨b, 0, none⟩) m cap, .slice (some ⟨b', o', none⟩) m' c']).run P w = .ok (.slice (some ⟨b, 0, none⟩) (m + m') cap) (w.setRow b (lay cur (m * i.size) news).toArray) := hr
  exact ⟨w.setRow b (lay cur (m * i.size) news).toArray, fun a ha => by simp [execOp, resolve, invoke, builtin, ha.ev hs, ha.ev hx, hr2], Upd.setRow hb⟩
theorem zs_appendRoom {ks : List Nat} {S : World → Prop} {i : Nat} {r : Ord} {s x : Operand} {t el : TypeId} {sz k m m' cap b b' o' c' : Nat} {z : Value} {cur news : List Value} [hu : Und P t (.slice el)] [hz : Inf P el sz k z] (hi : ops[i]? = some ⟨some d, .call { callee := .builtin .append, args := #[s, x], argTypes := #[t, t] }, ty, pos, aft, g⟩) (hw : Want ops e g) (hdn : d < n)
    (hs : ev e s = some (.slice (some ⟨b, 0, none⟩) m cap)) (hx : ev e x = some (.slice (some ⟨b', o', none⟩) m' c')) (hb : Blk w b el cur) (hl : news.length = m' * sz) (hnews : ∀ j u, news[j]? = some u → w.cell? ⟨b', o' + j, none⟩ = some u) (h1 : ∀ u ∈ news, u.oneCell' = true) (hroom : m + m' ≤ cap) (hfit : m * sz + news.length ≤ cur.length)
    (h : ∀ w', Upd w w' b el (lay cur (m * sz) news) → S w' ∧ ZS P n ops ks S r ((d, .slice (some ⟨b, 0, none⟩) (m + m') cap) :: e) w' Q) : ZS P n ops ks S (.all1 i r) e w Q := by
  obtain ⟨w', hr, hU⟩ := appendRoom_run (P := P) (n := n) (d := d) (ty := ty) (pos := pos) (aft := aft) (g := g) (t := t) hs hx hb hl hnews h1 hroom hfit
  obtain ⟨h4, h5⟩ := h w' hU
  exact zs_run hi hw rfl hdn hr h4 h5
theorem z_slice3 {B : Option Addr} {m c s j a b f : Nat} {a' b' f' : Int} {z : Value} {x y0 y1 y2 : Operand} {t el : TypeId} [hu : Und P t (.slice el)] [hz : Inf P el s j z] (hw : Want ops e g) (hdn : d < n) (hx : ev e x = some (.slice B m c)) (h0 : ev e y0 = some (.int .i64 a')) (h1 : ev e y1 = some (.int .i64 b')) (h2 : ev e y2 = some (.int .i64 f')) (ha : a' = (a : Int)) (hb : b' = (b : Int)) (hf : f' = (f : Int)) (hab : a ≤ b) (hbf : b ≤ f) (hc : f ≤ c)
    (h : ∀ v, ZL P n ops rest ((d, v) :: e) w Q) : ZL P n ops (⟨some d, .slice t x (some y0) (some y1) (some y2), ty, pos, aft, g⟩ :: rest) e w Q := by
  subst ha; subst hb; subst hf
  have hsz := hz.size w
  have k1 : (f : Int) ≤ c := by omega
  have k2 : (b : Int) ≤ f := by omega
  have k3 : (a : Int) ≤ b := by omega
  refine zl_run (w' := w) (v := .slice (if f = a then B else B.map (·.add (a * s))) (b - a) (f - a)) hw rfl hdn (fun A hA => ?_) (h _)
  simp [execOp, hA.ev hx, hA.ev h0, hA.ev h1, hA.ev h2, Instr.sliceAt, Instr.slice, run_underlying hu.eq, Instr.sliceBounds, Instr.sliceBound, asIntOf, hsz, k1, k2, k3]
  rw [if_pos hc, if_pos hbf, if_pos hab]
/-- a row of zero values -/
theorem z_clear {x : Operand} {t el : TypeId} {sz k m c b o : Nat} {z : Value} {cur zc : List Value} [hu : Und P t (.slice el)] [hz : Inf P el sz k z] (hw : Want ops e g)
    (hx : ev e x = some (.slice (some ⟨b, o, none⟩) m c)) (hb : Blk w b el cur) (hm : 0 < m) (hzc : (Builtin.zeroCells z.cells m).toList = zc) (hfit : o + zc.length ≤ cur.length) (h1 : ∀ u ∈ zc, u.oneCell' = true)
    (h : ∀ w', Upd w w' b el (lay cur o zc) → ZL P n ops rest e w' Q) : ZL P n ops (⟨none, .call { callee := .builtin .clear, args := #[x], argTypes := #[t] }, ty, pos, aft, g⟩ :: rest) e w Q := by
  unfold ZL at *
  intro a ha
  obtain ⟨i, hi1, hi2, hi3, hi4⟩ := hz.ex
  have hst := run_storeCells_at P b o el zc 0 cur.toArray w hb (by simpa using hfit) h1
  have hr : (execOp a.eval (⟨none, .call { callee := .builtin .clear, args := #[x], argTypes := #[t] }, ty, pos, aft, g⟩ : Oper)).run P w = .ok (.value (.tuple #[])) (w.setRow b (lay cur o zc).toArray) := by
    obtain ⟨m', rfl⟩ : ∃ k, m = k + 1 := ⟨m - 1, by omega⟩
    have hzv : (zeroValue el).run P w = .ok z w := by simp [zeroValue, typeInfo, hi1, hi4]
    simp only [Nat.add_zero] at hst
    simp [execOp, resolve, invoke, builtin, ha.ev hx, Builtin.clear_, run_underlying hu.eq, hzv, hzc, hst, lay]
  refine wpList_step fun K hK => ?_
  rw [if_pos (Want.wanted (o := ⟨none, .call { callee := .builtin .clear, args := #[x], argTypes := #[t] }, ty, pos, aft, g⟩) hw ha)]
  unfold Oper.wp
  rw [hr, Oper.upon_value]
  exact hK _ _ (h _ (Upd.setRow hb) a ha)
end
end Go.Z

namespace Go.Proofs.Yteeibieaapiomaa.D
open Go Go.Z Go.Proofs
set_option linter.unusedVariables false
/-- one entry taken out at i -/
def delC (cs : List Value) (i : Nat) : List Value := cs.take (i * 3) ++ cs.drop ((i + 1) * 3)
theorem del_list {A B R zc : List Value} {a m : Nat} (hm : a = m) (hA : (A ++ B).length = m) (hz : zc.length = 3) : Z.lay (A ++ B ++ R) a zc = A ++ B ++ (zc ++ R.drop 3) := by
  subst hm; subst hA
  unfold Z.lay
  rw [List.take_left, hz, List.drop_length_add_append, List.append_assoc]
theorem lay_mid {A B C : List Value} {a : Nat} (hA : A.length = a) : Z.lay (A ++ C) a B = A ++ B ++ C.drop B.length := by
  subst hA
  unfold Z.lay
  rw [List.take_left, List.drop_length_add_append]
def zc3 : List Value := [.int .i64 0, .int .i64 0, .string ⟨#[]⟩]
set_option maxRecDepth 100000 in
set_option maxHeartbeats 8000000 in
theorem sDel_calls {w : World} {vo : Value} {n i : Nat} {cs : List Value} (h : Own w 74 3 vo n cs) (hn : n ≤ 1000000) (hi : i < n) {i1 : Int} (hi1 : i1 = (i : Int) + 1) :
    Calls Try.prog 54 [vo, .int .i64 i, .int .i64 i1].toArray w fun x w' => ∃ v', x = .returned v' ∧ Own w' 74 3 v' (n - 1) (delC cs i) ∧ Chg w w' (fun k => vo.ownBlock = some k) ∧ v'.ownBlock = vo.ownBlock := by
  subst hi1
  have hcl := h.len
  rcases h.cases.2 with ⟨_, h0, _⟩ | ⟨b, cap, junk, rfl, hcap, hmax, hB, htot⟩
  · omega
  have hAl : (cs.take (i * 3)).length = i * 3 := by rw [List.length_take]; omega
  have hBl : (cs.drop ((i + 1) * 3)).length = (n - 1 - i) * 3 := by rw [List.length_drop]; omega
  refine calls_zc (n := 33) (f := 54) (fn := Try.f54) Try.func54 rfl rfl (by simp) ?_
  refine zc_seq ?_
  refine zc_region ?_
  refine zl_pureL rfl ?_
  refine zl_nil ?_
  refine zk_seq ?_
  refine zc_seq ?_
  refine zc_region ?_
  iterate 4 (refine zl_pureL rfl ?_)
  refine z_len want_none (by decide) rfl ?_
  refine z_slice3 (a := i) (b := i + 1) (f := n) (by first | exact want_none | exact want_L rfl) (by decide) rfl rfl rfl rfl rfl (by omega) (by omega) (by omega) (by omega) (by omega) (fun v13 => ?_)
  refine zl_nil ?_
  refine zk_seq ?_
  iterate 2 (refine zc_seq ?_)
  refine zc_region ?_
  iterate 2 (refine zl_pureL rfl ?_)
  refine z_cmpB (r := false) want_none (by decide) rfl rfl rfl (iff_of_false Bool.false_ne_true (by omega)) ?_
  refine zl_nil ?_
  refine zk_seq ?_
  refine zc_false rfl ?_
  refine zc_skip ?_
  refine zk_seq ?_
  refine zc_seq ?_
  refine zc_region ?_
  refine zl_pureL rfl ?_
  refine z_len want_none (by decide) rfl ?_
  refine zl_pureL rfl ?_
  refine zl_nil ?_
  refine zk_seq ?_
  refine zc_seq ?_
  refine zc_draw [] (fun w' => Chg w w' (· = b)) (.take 0 (.take 1 (.take 2 (.take 3 (.take 4 (.take 5 (.all1 6 (.take 7 (.fin))))))))) (by rfl) (by kernel_rfl) (by kernel_rfl) (fun w2 hC2 _ => ⟨?_, ?_⟩)
  · exact hC2.mono (fun _ _ h => h.elim)
  have hB2 := hB.no hC2
  iterate 2 (refine zs_take rfl (zt_pure rfl ?_))
  refine zs_rdL rfl (by first | exact want_none | exact want_L rfl) rfl (by decide) (fun _ hS => r_cutTo (k := i) (.inr ⟨_, _, rfl⟩) rfl rfl (by omega)) ?_
  iterate 2 (refine zs_take rfl (zt_pure rfl ?_))
  refine zs_rdL rfl (by first | exact want_none | exact want_L rfl) rfl (by decide) (fun _ hS => r_cutFrom (k := i + 1) rfl (optI_eq rfl (by omega)) (by omega) (by omega)) ?_
  obtain ⟨o', ho', ho⟩ : ∃ o', cutA (some ⟨b, 0, none⟩) cap (i + 1) 3 = some ⟨b, o', none⟩ ∧ (i + 1 < cap → o' = (i + 1) * 3) := by
    by_cases hc : i + 1 < cap
    · exact ⟨_, cutA_at hc, fun _ => by omega⟩
    · refine ⟨0, ?_, fun hh => absurd hh hc⟩
      unfold cutA; rw [if_pos (by omega)]
  rw [ho']
  skip
  have hne : ∀ j u, (cs.drop ((i + 1) * 3))[j]? = some u → w2.cell? ⟨b, o' + j, none⟩ = some u := fun j u hj => by
    have hjl := (List.getElem?_eq_some_iff.1 hj).1
    rw [hB2.cell, ho (by omega)]
    rw [List.getElem?_drop] at hj
    rw [List.getElem?_append_left (List.getElem?_eq_some_iff.1 hj).1]; exact hj
  refine zs_appendRoom (sz := 3) (news := cs.drop ((i + 1) * 3)) rfl (by first | exact want_none | exact want_L rfl) (by decide) rfl rfl hB2 (by rw [hBl]; congr 1; omega) hne (fun u hu => h.2 u (List.mem_of_mem_drop hu)) (by omega) (by rw [hBl, List.length_append]; omega) (fun w3 hU3 => ?_)
  refine ⟨(hC2.mono (fun _ _ h => h.elim)).trans hU3.chg (fun _ _ h => h), ?_⟩
  have hB3 := hU3.blk
  rw [show cs ++ junk = cs.take (i * 3) ++ (cs.drop (i * 3) ++ junk) by rw [← List.append_assoc, List.take_append_drop], lay_mid hAl] at hB3
  obtain ⟨R, hR⟩ : ∃ R, R = (cs.drop (i * 3) ++ junk).drop (cs.drop ((i + 1) * 3)).length := ⟨_, rfl⟩
  have hRl : R.length = cap * 3 - (n - 1) * 3 := by
    rw [hR, List.length_drop, List.length_append, List.length_drop, hBl]
    rw [List.length_append] at htot; omega
  rw [← hR] at hB3
  rw [show i + (n - (i + 1)) = n - 1 by omega]
  have hdl : (delC cs i).length = (n - 1) * 3 := by unfold delC; rw [List.length_append, hAl, hBl]; omega
  refine zs_take rfl (zt_pure rfl ?_)
  refine zs_fin ?_
  refine zk_seq ?_
  refine zc_seq ?_
  refine zc_region ?_
  iterate 2 (refine zl_pureL rfl ?_)
  refine z_len want_none (by decide) rfl ?_
  refine zl_pureL rfl ?_
  refine z_cutAB (n - 1) n (by first | exact want_none | exact want_L rfl) (by decide) rfl rfl rfl (by omega) (by omega) (by omega) (by omega) ?_
  rw [if_neg (by omega), Option.map_some, addr_add]
  skip
  refine z_clear (m := n - (n - 1)) (zc := zc3) (by first | exact want_none | exact want_L rfl) rfl hB3 (by omega) (by rw [show n - (n - 1) = 1 by omega]; kernel_rfl) (by show 0 + (n - 1) * 3 + 3 ≤ (delC cs i ++ R).length; rw [List.length_append, hdl, hRl]; omega) (by intro u hu; simp [zc3] at hu; rcases hu with rfl | rfl <;> rfl) (fun w4 hU4 => ?_)
  have hB4 := hU4.blk
  rw [Nat.zero_add] at hB4
  rw [del_list rfl (show (cs.take (i * 3) ++ cs.drop ((i + 1) * 3)).length = (n - 1) * 3 from hdl) rfl] at hB4
  refine zl_nil ?_
  refine zk_seq ?_
  refine zc_seq ?_
  refine zc_region ?_
  iterate 2 (refine zl_pureL rfl ?_)
  refine zl_nil ?_
  refine zk_seq ?_
  refine zc_ret ?_
  refine zk_ret1 (.inr rfl) rfl rfl ⟨_, rfl, Own.mk' (junk := zc3 ++ R.drop 3) hdl (by omega) hmax hB4 ?_ ?_, ?_, rfl⟩
  · show (delC cs i ++ (zc3 ++ R.drop 3)).length = cap * 3
    rw [List.length_append, hdl, List.length_append, List.length_drop, hRl]
    show (n - 1) * 3 + (3 + _) = _
    omega
  · intro u hu
    unfold delC at hu
    rcases List.mem_append.1 hu with hu | hu
    · exact h.2 u (List.mem_of_mem_take hu)
    · exact h.2 u (List.mem_of_mem_drop hu)
  · exact ((hC2.mono (fun _ _ h => h.elim)).trans hU3.chg (fun _ _ h => by rw [h]; rfl)).trans hU4.chg (fun _ _ h => by rw [h]; rfl)
end Go.Proofs.Yteeibieaapiomaa.D
