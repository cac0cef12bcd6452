import Derived.Test.YteeibieaapiomaaSbD
import Derived.Lib.AppendZerosOnto
import Derived.Lib.Overlaps
/- SIns -/
/- slices.Insert: one entry. -/
namespace Go.Z
open Go
section
variable {P : Program} {n : Nat} {e : Env} {w : World} {Q : Exit → Act → World → Prop} {ops : Array Oper} {rest : List Oper}
variable {d : Tmp} {ty : TypeId} {pos : String} {aft : Array Edge} {g : Option (Nat × Bool)}
/-- zero values behind a row that has no room for them -/
theorem appendZ_run {s x : Operand} {t tn el : TypeId} {sz k m c kk b : Nat} {kx : Int} {z : Value} {xs : List Value} [hu : Und P t (.slice el)] [hn : Und P tn (.int .i64)] [hz : Inf P el sz k z] (hzs : z.cells.size = sz) (hsz : 0 < sz)
    (hs : ev e s = some (.slice (some ⟨b, 0, none⟩) m c)) (hx : ev e x = some (.int .i64 kx)) (hkx : kx = (kk : Int)) (hown : Own w el sz (.slice (some ⟨b, 0, none⟩) m c) m xs) (h0 : 0 < kk) (hg : c < m + kk) (h63 : m + kk ≤ maxLen) (hby : (m + kk) * k ≤ 140737488355328) :
    ∃ cap zc junk w', (∀ a, Ok n e a → (execOp a.eval (⟨some d, .call { callee := .builtin .append, args := #[s, x], argTypes := #[t, tn] }, ty, pos, aft, g⟩ : Oper)).run P w = .ok (.value (.slice (some ⟨w.heap.size, 0, none⟩) (m + kk) cap)) w') ∧
      m + kk ≤ cap ∧ cap ≤ maxLen ∧ Blk w' w.heap.size el (xs ++ zc ++ junk) ∧ zc.length = kk * sz ∧ (xs ++ zc ++ junk).length = cap * sz ∧ Chg w w' No ∧ w'.heap.size = w.heap.size + 1 := by
  subst hkx
  obtain ⟨i, hi1, hi2, hi3, hi4⟩ := hz.ex
  have hl := hown.len
  subst hi2
  have hsrc : ∀ j u, xs[j]? = some u → w.drew.cell? ((⟨b, 0, none⟩ : Addr).add j) = some u := fun j u hj => by
    have := hown.1.cells (g := b) rfl j u hj
    exact this
  have hold := run_firstCells_some (P := P) (w := w.drew) i.size m ⟨b, 0, none⟩ m c xs hl hsrc
  have h1 : kk * k ≤ 140737488355328 := Nat.le_trans (Nat.mul_le_mul_right _ (by omega)) hby
  have hr := Lib.run_append_grow_zeros (P := P) w t tn ty el i z .i64 .i64 hu.eq hn.eq hi1 hi4 (some ⟨b, 0, none⟩) m c xs hold kk h0 hsz hg (by simp only [maxLen] at h63; omega) (by rw [hi3]; omega) (by rw [hi3]; exact growslice_fits hg hby)
  have hge := grownCap_ge w (m + kk) c el
  refine ⟨grownCap w (m + kk) c el, (Builtin.zeroCells z.cells kk).toList, (Builtin.zeroCells z.cells (grownCap w (m + kk) c el - (m + kk))).toList, w.drew.alloc (.cells (xs.toArray ++ Builtin.zeroCells z.cells kk ++ Builtin.zeroCells z.cells (grownCap w (m + kk) c el - (m + kk))) el), fun a ha => by simp [execOp, resolve, invoke, builtin, ha.ev hs, ha.ev hx, hr], hge, grownCap_le_maxLen w (m + kk) c el h63, ?_, ?_, ?_, ⟨rfl, rfl, rfl, by simp, fun k hk _ => heap_alloc_old w.drew _ hk⟩, by simp⟩
  · have := heap_alloc_new w.drew (.cells (xs.toArray ++ Builtin.zeroCells z.cells kk ++ Builtin.zeroCells z.cells (grownCap w (m + kk) c el - (m + kk))) el)
    unfold Blk
    refine this.trans ?_
    congr 2
    simp
  · rw [Array.length_toList, size_zeroCells, hzs]
  · simp only [List.length_append, Array.length_toList, size_zeroCells, hzs, hl, ← Nat.add_mul]
    congr 1; omega
theorem z_appendZ {s x : Operand} {t tn el : TypeId} {sz k m c b : Nat} {kx : Int} (kk : Nat) {z : Value} {xs : List Value} [hu : Und P t (.slice el)] [hn : Und P tn (.int .i64)] [hz : Inf P el sz k z] (hw : Want ops e g) (hdn : d < n) (hzs : z.cells.size = sz) (hsz : 0 < sz)
    (hs : ev e s = some (.slice (some ⟨b, 0, none⟩) m c)) (hx : ev e x = some (.int .i64 kx)) (hkx : kx = (kk : Int)) (hown : Own w el sz (.slice (some ⟨b, 0, none⟩) m c) m xs) (h0 : 0 < kk) (hg : c < m + kk) (h63 : m + kk ≤ maxLen) (hby : (m + kk) * k ≤ 140737488355328)
    (h : ∀ cap zc junk w', m + kk ≤ cap → cap ≤ maxLen → Blk w' w.heap.size el (xs ++ zc ++ junk) → zc.length = kk * sz → (xs ++ zc ++ junk).length = cap * sz → Chg w w' No → w'.heap.size = w.heap.size + 1 → ZL P n ops rest ((d, .slice (some ⟨w.heap.size, 0, none⟩) (m + kk) cap) :: e) w' Q) :
    ZL P n ops (⟨some d, .call { callee := .builtin .append, args := #[s, x], argTypes := #[t, tn] }, ty, pos, aft, g⟩ :: rest) e w Q := by
  obtain ⟨cap, zc, junk, w', hr, g1, g2, g3, g4, g5, g6, g7⟩ := appendZ_run (P := P) (n := n) (d := d) (ty := ty) (pos := pos) (aft := aft) (g := g) (t := t) (tn := tn) hzs hsz hs hx hkx hown h0 hg h63 hby
  exact zl_run hw rfl hdn hr (h cap zc junk w' g1 g2 g3 g4 g5 g6 g7)
theorem z_cap {x : Operand} {A : Option Addr} {m c : Nat} {t el : TypeId} [hu : Und P t (.slice el)] (hw : Want ops e g) (hdn : d < n) (hx : ev e x = some (.slice A m c)) (h : ZL P n ops rest ((d, .int .i64 c) :: e) w Q) :
    ZL P n ops (⟨some d, .call { callee := .builtin .cap, args := #[x], argTypes := #[t] }, ty, pos, aft, g⟩ :: rest) e w Q :=
  zl_run hw rfl hdn (w' := w) (fun a ha => by simp [execOp, resolve, invoke, builtin, ha.ev hx, Builtin.cap_, run_underlying hu.eq, goInt]) h
/-- two slices in two blocks -/
theorem overlaps_run {f : FuncId} {fn : Func} {tS tR el : TypeId} {x y : Operand} {ats : Array TypeId} {b1 b2 o1 o2 l1 c1 l2 c2 sz k : Nat} {z : Value} {cs1 cs2 : List Value} {t1 t2 : TypeId} [hu : Und P tS (.slice el)] [hz : Inf P el sz k z]
    (hf : P.funcs[f]? = some fn) (hname : (fn.name == "runtime.NumGoroutine") = false) (hb : fn.body.isNone = true) (hn : Extern.findNext fn = none) (he : Extern.find fn = some (Extern.SlicesOverlaps.overlaps #[tS, tS] #[tR]))
    (hx : ev e x = some (.slice (some ⟨b1, o1, none⟩) l1 c1)) (hy : ev e y = some (.slice (some ⟨b2, o2, none⟩) l2 c2)) (h1 : Blk w b1 t1 cs1) (h2 : Blk w b2 t2 cs2) (hne : b1 ≠ b2) (hk : cs2.length ≠ 0) :
    ∀ a, Ok n e a → (execOp a.eval (⟨some d, .call { callee := .value (.func f), args := #[x, y], argTypes := ats }, ty, pos, aft, g⟩ : Oper)).run P w = .ok (.value (.bool false)) w := fun a ha => by
  have hr := run_callFunc_extern (P := P) hf hname hb hn he #[.slice (some ⟨b1, o1, none⟩) l1 c1, .slice (some ⟨b2, o2, none⟩) l2 c2] w
  have hs1 : w.shape? b1 = some (t1, cs1.length) := by unfold World.shape?; rw [show w.heap[b1]? = _ from h1]; simp
  have hs2 : w.shape? b2 = some (t2, cs2.length) := by unfold World.shape?; rw [show w.heap[b2]? = _ from h2]; simp
  have ho := Lib.run_overlaps_apart (P := P) w tS tR el hu.eq sz (fun w => hz.size w) ⟨b1, o1, none⟩ ⟨b2, o2, none⟩ l1 c1 l2 c2 hne t1 t2 _ _ hs1 hs2 hk (h1.thawed _) (h1.thawed _)
  rw [ho] at hr
  have e1 : a.eval (.func f) = .func (.func f) #[] #[] := rfl
  simp [execOp, resolve, e1, Deferred.ofValue, invoke, ha.ev hx, ha.ev hy, hr, Result.andThen]
end
end Go.Z

namespace Go.Proofs.Yteeibieaapiomaa.D
open Go Go.Z Go.Proofs
set_option linter.unusedVariables false
instance : Und Try.prog 3 (.int .i64) := ⟨Try.underlying3⟩
/-- one entry put in at i -/
def insC (cs : List Value) (i : Nat) (ec : List Value) : List Value := cs.take (i * 3) ++ ec ++ cs.drop (i * 3)
theorem ins_in {A B J ec : List Value} {a : Nat} (ha : A.length = a) (hj : 3 ≤ J.length) (hec : ec.length = 3) : Z.lay (Z.lay (A ++ B ++ J) (a + 3) B) a ec = A ++ ec ++ B ++ J.drop 3 := by
  subst ha
  obtain ⟨Y, hY, hYl⟩ : ∃ Y : List Value, (A ++ B ++ J).take (A.length + 3) = A ++ Y ∧ Y.length = 3 := by
    refine ⟨(B ++ J).take 3, ?_, by rw [List.length_take, List.length_append]; omega⟩
    rw [List.append_assoc, List.take_length_add_append]
  have hd : (A ++ B ++ J).drop (A.length + 3 + B.length) = J.drop 3 := by
    rw [show A.length + 3 + B.length = (A ++ B).length + 3 by rw [List.length_append]; omega, List.drop_length_add_append]
  have h1 : Z.lay (A ++ B ++ J) (A.length + 3) B = A ++ (Y ++ (B ++ J.drop 3)) := by
    unfold Z.lay
    rw [hY, hd]
    simp
  rw [h1]
  unfold Z.lay
  rw [List.take_left, hec, List.drop_length_add_append, ← hYl, List.drop_left]
  simp
theorem ins_grow {A Y B J ec : List Value} {a : Nat} (ha : A.length = a) (hz : Y.length = B.length + 3) (hec : ec.length = 3) : Z.lay (Z.lay (A ++ Y ++ J) a ec) (a + 3) B = A ++ ec ++ B ++ J := by
  subst ha
  have h1 : Z.lay (A ++ Y ++ J) A.length ec = A ++ ec ++ (Y.drop 3 ++ J) := by
    rw [List.append_assoc A Y J]
    unfold Z.lay
    rw [List.take_left, hec, List.drop_length_add_append, List.drop_append_of_le_length (by omega)]
  rw [h1]
  unfold Z.lay
  have hl : (A ++ ec).length = A.length + 3 := by rw [List.length_append, hec]
  rw [← hl, List.take_left, List.drop_length_add_append, List.drop_append_of_le_length (by rw [List.length_drop]; omega), List.drop_drop, List.drop_of_length_le (by omega)]
  simp
theorem insC_len {cs ec : List Value} {i n : Nat} (hc : cs.length = n * 3) (hi : i ≤ n) (he : ec.length = 3) : (insC cs i ec).length = (n + 1) * 3 := by
  unfold insC
  rw [List.length_append, List.length_append, List.length_take, List.length_drop]; omega
theorem insC_one {cs ec : List Value} {i : Nat} (h : ∀ u ∈ cs, u.oneCell' = true) (he : ∀ u ∈ ec, u.oneCell' = true) : ∀ u ∈ insC cs i ec, u.oneCell' = true := fun u hu => by
  unfold insC at hu
  rcases List.mem_append.1 hu with hu | hu
  · rcases List.mem_append.1 hu with hu | hu
    · exact h u (List.mem_of_mem_take hu)
    · exact he u hu
  · exact h u (List.mem_of_mem_drop hu)
set_option maxRecDepth 100000 in
set_option maxHeartbeats 8000000 in
theorem sIns_calls {w : World} {vo : Value} {n i vb : Nat} {cs ec : List Value} (h : Own w 74 3 vo n cs) (hvb : Blk w vb 74 ec) (hec : ec.length = 3) (h1 : ∀ u ∈ ec, u.oneCell' = true) (hne : vo.ownBlock ≠ some vb) (hn : n ≤ 1000000) (hi : i < n) :
    Calls Try.prog 52 [vo, .int .i64 i, .slice (some ⟨vb, 0, none⟩) 1 1].toArray w fun x w' => ∃ v', x = .returned v' ∧ Own w' 74 3 v' (n + 1) (insC cs i ec) ∧ Chg w w' (fun k => vo.ownBlock = some k) ∧ (v'.ownBlock = vo.ownBlock ∨ ∃ k, v'.ownBlock = some k ∧ w.heap.size ≤ k) := by
  have hcl := h.len
  rcases h.cases.2 with ⟨_, h0, _⟩ | ⟨b, cap, junk, rfl, hcap, hmax, hB, htot⟩
  · omega
  have hr : RdS w 74 3 (.slice (some ⟨vb, 0, none⟩) 1 1) 1 ec := RdS.blk hvb (by omega) (Nat.le_refl _) h1 0 (fun j u hj => by simpa using hj)
  have hneb : b ≠ vb := fun he => hne (by rw [he]; rfl)
  have hicl : i * 3 ≤ cs.length := by omega
  refine calls_zc (n := 95) (f := 52) (fn := Try.f52) Try.func52 rfl rfl (by simp) ?_
  refine zc_seq ?_
  refine zc_region ?_
  refine zl_pureL rfl ?_
  refine zl_nil ?_
  refine zk_seq ?_
  refine zc_seq ?_
  refine zc_region ?_
  iterate 2 (refine zl_pureL rfl ?_)
  refine zl_run (by first | exact want_none | exact want_L rfl) rfl (by decide) (r_cutFrom (k := i) rfl rfl (by omega) (by omega)) ?_
  refine zl_nil ?_
  refine zk_seq ?_
  refine zc_seq ?_
  refine zc_region ?_
  refine zl_pureL rfl ?_
  refine z_len want_none (by decide) rfl ?_
  refine zl_pureL rfl ?_
  refine zl_nil ?_
  refine zk_seq ?_
  iterate 2 (refine zc_seq ?_)
  refine zc_region ?_
  refine zl_pureL rfl ?_
  refine z_cmpB (r := false) want_none (by decide) rfl rfl rfl (iff_of_false Bool.false_ne_true (by omega)) ?_
  refine zl_nil ?_
  refine zk_seq ?_
  refine zc_false rfl ?_
  refine zc_skip ?_
  refine zk_seq ?_
  refine zc_seq ?_
  refine zc_region ?_
  refine zl_pureL rfl ?_
  refine z_len want_none (by decide) rfl ?_
  refine zl_pureL rfl ?_
  refine zl_nil ?_
  refine zk_seq ?_
  iterate 2 (refine zc_seq ?_)
  refine zc_region ?_
  iterate 2 (refine zl_pureL rfl ?_)
  refine z_cmpB (r := false) want_none (by decide) rfl rfl rfl (iff_of_false Bool.false_ne_true (by omega)) ?_
  refine zl_nil ?_
  refine zk_seq ?_
  refine zc_false rfl ?_
  refine zc_skip ?_
  refine zk_seq ?_
  iterate 2 (refine zc_seq ?_)
  refine zc_region ?_
  iterate 2 (refine zl_pureL rfl ?_)
  refine z_add want_none (by decide) rfl rfl (by omega) (by omega) ?_
  refine zl_pureL rfl ?_
  by_cases hroom : n + 1 ≤ cap
  · refine z_cap (by first | exact want_none | exact want_L rfl) (by decide) rfl ?_
    refine z_cmpB (r := false) want_none (by decide) rfl rfl rfl (iff_of_false Bool.false_ne_true (by omega)) ?_
    refine zl_nil ?_
    refine zk_seq ?_
    refine zc_false rfl ?_
    refine zc_skip ?_
    refine zk_seq ?_
    refine zc_seq ?_
    refine zc_region ?_
    iterate 3 (refine zl_pureL rfl ?_)
    refine z_add want_none (by decide) rfl rfl (by omega) (by omega) ?_
    refine zl_run (by first | exact want_none | exact want_L rfl) rfl (by decide) (r_cutTo (k := n + 1) (.inr ⟨_, _, rfl⟩) rfl (optI_eq rfl (by omega)) (by omega)) ?_
    refine zl_pureL rfl ?_
    refine zl_nil ?_
    refine zk_seq ?_
    iterate 2 (refine zc_seq ?_)
    refine zc_region ?_
    iterate 4 (refine zl_pureL rfl ?_)
    refine z_add want_none (by decide) rfl rfl (by omega) (by omega) ?_
    refine zl_run (by first | exact want_none | exact want_L rfl) rfl (by decide) (r_cutFrom (k := i + 1) rfl (optI_eq rfl (by omega)) (by omega) (by omega)) ?_
    rw [cutA_at (by omega), Nat.zero_add]
    skip
    refine zl_run (by first | exact want_none | exact want_L rfl) rfl (by decide) (overlaps_run (tS := 70) (tR := 4) (el := 74) (Try.func85) (by kernel_rfl) (by kernel_rfl) (by kernel_rfl) (by kernel_rfl) rfl rfl hvb hB (Ne.symm hneb) (by rw [htot]; omega)) ?_
    refine zl_pureL rfl ?_
    refine zl_nil ?_
    refine zk_seq ?_
    refine zc_true rfl ?_
    refine zc_seq ?_
    refine zc_draw [] (fun w' => Chg w w' (· = b)) (.take 0 (.take 1 (.take 2 (.take 3 (.take 4 (.take 5 (.take 6 (.take 7 (.all1 8 (.fin)))))))))) (by rfl) (by kernel_rfl) (by kernel_rfl) (fun w2 hC2 _ => ⟨?_, ?_⟩)
    · exact hC2.mono (fun _ _ h => h.elim)
    have hB2 := hB.no hC2
    iterate 3 (refine zs_take rfl (zt_pure rfl ?_))
    refine zs_rdL rfl want_none rfl (by decide) (fun _ hS => r_add rfl rfl (by omega) (by omega)) ?_
    refine zs_rdL rfl (by first | exact want_none | exact want_L rfl) rfl (by decide) (fun _ hS => r_cutFrom (k := i + 1) rfl (optI_eq rfl (by omega)) (by omega) (by omega)) ?_
    rw [cutA_at (by omega), Nat.zero_add]
    iterate 2 (refine zs_take rfl (zt_pure rfl ?_))
    refine zs_rdL rfl (by first | exact want_none | exact want_L rfl) rfl (by decide) (fun _ hS => r_cutFrom (k := i) rfl rfl (by omega) (by omega)) ?_
    rw [cutA_at (by omega), Nat.zero_add]
    skip
    have hAl : (cs.take (i * 3)).length = i * 3 := by rw [List.length_take]; omega
    have hsp : cs.take (i * 3) ++ cs.drop (i * 3) ++ junk = cs ++ junk := by rw [List.take_append_drop]
    have hBl : (cs.drop (i * 3)).length = (n - i) * 3 := by rw [List.length_drop]; omega
    have hjl : 3 ≤ junk.length := by rw [List.length_append] at htot; omega
    have hmin : Nat.min (n + 1 - i) (n + 1 - (i + 1)) = n - i := by rw [show n + 1 - (i + 1) = n - i by omega]; exact Nat.min_eq_right (by omega)
    refine zs_copy (cs := cs.drop (i * 3)) rfl (by first | exact want_none | exact want_L rfl) (by decide) rfl rfl hB2 (by rw [hmin, hBl]) (fun j u hj => by
      rw [addr_add, hB2.cell]
      rw [List.getElem?_drop] at hj
      rw [List.getElem?_append_left (List.getElem?_eq_some_iff.1 hj).1]; exact hj) (by rw [hBl, List.length_append]; omega) (fun u hu => h.2 u (List.mem_of_mem_drop hu)) (fun w3 hU3 => ?_)
    refine ⟨(hC2.mono (fun _ _ h => h.elim)).trans hU3.chg (fun _ _ h => h), ?_⟩
    have hvb3 := (hvb.no hC2).chg hU3.chg (Ne.symm hneb)
    have hB3 := hU3.blk
    refine zs_fin ?_
    refine zk_seq ?_
    refine zc_seq ?_
    refine zc_region ?_
    iterate 2 (refine zl_pureL rfl ?_)
    refine zl_run (by first | exact want_none | exact want_L rfl) rfl (by decide) (r_cutFrom (k := i) rfl rfl (by omega) (by omega)) ?_
    rw [cutA_at (by omega), Nat.zero_add]
    refine zl_pureL rfl ?_
    have hmin2 : Nat.min 1 (n + 1 - i) = 1 := Nat.min_eq_left (by omega)
    refine z_copy (cs := ec) (by first | exact want_none | exact want_L rfl) (by decide) rfl rfl hB3 (by rw [hmin2, hec]) (fun j u hj => by
      rw [addr_add, hvb3.cell, Nat.zero_add]; exact hj) (by rw [lay_len (by rw [hBl, List.length_append]; omega), List.length_append]; omega) h1 (fun w4 hU4 => ?_)
    have hB4 := hU4.blk
    rw [← hsp, show (i + 1) * 3 = i * 3 + 3 by omega, ins_in hAl hjl hec] at hB4
    refine zl_nil ?_
    refine zk_seq ?_
    refine zc_seq ?_
    refine zc_region ?_
    iterate 2 (refine zl_pureL rfl ?_)
    refine zl_nil ?_
    refine zk_seq ?_
    refine zc_ret ?_
    refine zk_ret_then ?_
    refine zk_ret1 (.inr rfl) rfl rfl ⟨_, rfl, Own.mk' (junk := junk.drop 3) (insC_len hcl (by omega) hec) hroom hmax hB4 ?_ (insC_one h.2 h1), ?_, .inl rfl⟩
    · show (insC cs i ec ++ junk.drop 3).length = cap * 3
      rw [List.length_append, insC_len hcl (by omega) hec, List.length_drop]
      rw [List.length_append] at htot; omega
    · exact ((hC2.mono (fun _ _ h => h.elim)).trans hU3.chg (fun _ _ h => by rw [h]; rfl)).trans hU4.chg (fun _ _ h => by rw [h]; rfl)
  · refine z_cap (by first | exact want_none | exact want_L rfl) (by decide) rfl ?_
    refine z_cmpB (r := true) want_none (by decide) rfl rfl rfl (iff_of_true rfl (by omega)) ?_
    refine zl_nil ?_
    refine zk_seq ?_
    refine zc_true rfl ?_
    refine zc_seq ?_
    refine zc_region ?_
    iterate 2 (refine zl_pureL rfl ?_)
    refine zl_run (by first | exact want_none | exact want_L rfl) rfl (by decide) (r_cutTo (k := i) (.inr ⟨_, _, rfl⟩) rfl rfl (by omega)) ?_
    iterate 2 (refine zl_pureL rfl ?_)
    refine z_add want_none (by decide) rfl rfl (by omega) (by omega) ?_
    refine zl_pureL rfl ?_
    refine z_sub want_none (by decide) rfl rfl (by omega) (by omega) ?_
    refine z_appendZ (n + 1 - i) (by first | exact want_none | exact want_L rfl) (by decide) (by rfl) (by decide) rfl rfl (by omega) (h.take i (by omega)) (by omega) (by omega) (by simp only [maxLen]; omega) (by omega) (fun cap2 zc junk2 w2 g1 g2 g3 g4 g5 g6 g7 => ?_)
    refine zl_pureL rfl ?_
    refine zl_nil ?_
    refine zk_seq ?_
    refine zc_seq ?_
    refine zc_region ?_
    iterate 2 (refine zl_pureL rfl ?_)
    refine zl_run (by first | exact want_none | exact want_L rfl) rfl (by decide) (r_cutFrom (k := i) rfl rfl (by omega) (by omega)) ?_
    rw [cutA_at (by omega), Nat.zero_add]
    refine zl_pureL rfl ?_
    have hAl : (cs.take (i * 3)).length = i * 3 := by rw [List.length_take]; omega
    have hBl : (cs.drop (i * 3)).length = (n - i) * 3 := by rw [List.length_drop]; omega
    have hmin1 : Nat.min 1 (i + (n + 1 - i) - i) = 1 := Nat.min_eq_left (by omega)
    have hmin2 : Nat.min (n - i) (i + (n + 1 - i) - (i + 1)) = n - i := Nat.min_eq_left (by omega)
    have hvb2 := hvb.no g6
    refine z_copy (cs := ec) (by first | exact want_none | exact want_L rfl) (by decide) rfl rfl g3 (by rw [hmin1, hec]) (fun j u hj => by
      rw [addr_add, hvb2.cell, Nat.zero_add]; exact hj) (by rw [g5]; omega) h1 (fun w3 hU3 => ?_)
    have hB3 := hU3.blk
    have hbs3 : Blk w3 b 74 (cs ++ junk) := (hB.no g6).chg hU3.chg (by have := hB.lt; omega)
    refine zl_nil ?_
    refine zk_seq ?_
    refine zc_seq ?_
    refine zc_draw [] (fun w' => Chg w w' (· = b)) (.take 0 (.take 1 (.take 2 (.take 3 (.take 4 (.take 5 (.take 6 (.take 7 (.all1 8 (.fin)))))))))) (by rfl) (by kernel_rfl) (by kernel_rfl) (fun w4 hC4 _ => ⟨?_, ?_⟩)
    · exact ((g6.mono (S' := fun k => k = b) (fun _ _ h => h.elim)).trans hU3.chg (fun k hk he => by rw [he] at hk; omega)).trans (hC4.mono (S' := fun k => k = b) (fun _ _ h => h.elim)) (fun k _ h => h)
    have hB4 := hB3.no hC4
    have hbs4 := hbs3.no hC4
    iterate 3 (refine zs_take rfl (zt_pure rfl ?_))
    refine zs_rdL rfl want_none rfl (by decide) (fun _ hS => r_add rfl rfl (by omega) (by omega)) ?_
    refine zs_rdL rfl (by first | exact want_none | exact want_L rfl) rfl (by decide) (fun _ hS => r_cutFrom (k := i + 1) rfl (optI_eq rfl (by omega)) (by omega) (by omega)) ?_
    rw [cutA_at (by omega), Nat.zero_add]
    iterate 2 (refine zs_take rfl (zt_pure rfl ?_))
    refine zs_rdL rfl (by first | exact want_none | exact want_L rfl) rfl (by decide) (fun _ hS => r_cutFrom (k := i) rfl rfl (by omega) (by omega)) ?_
    rw [cutA_at (by omega), Nat.zero_add]
    skip
    refine zs_copy (cs := cs.drop (i * 3)) rfl (by first | exact want_none | exact want_L rfl) (by decide) rfl rfl hB4 (by rw [hmin2, hBl]) (fun j u hj => by
      rw [addr_add, hbs4.cell]
      rw [List.getElem?_drop] at hj
      rw [List.getElem?_append_left (List.getElem?_eq_some_iff.1 hj).1]; exact hj) (by rw [hBl, lay_len (by rw [g5]; omega), g5]; omega) (fun u hu => h.2 u (List.mem_of_mem_drop hu)) (fun w5 hU5 => ?_)
    have hC5 : Chg w w5 No := (((g6.trans hU3.chg (S := No) (fun k hk he => by rw [he] at hk; omega))).no hC4).trans hU5.chg (fun k hk he => by rw [he] at hk; omega)
    refine ⟨hC5.mono (fun _ _ h => h.elim), ?_⟩
    have hB5 := hU5.blk
    rw [show (i + 1) * 3 = i * 3 + 3 by omega, ins_grow hAl (by rw [g4, hBl]; omega) hec] at hB5
    refine zs_fin ?_
    refine zk_seq ?_
    refine zc_seq ?_
    refine zc_region ?_
    iterate 2 (refine zl_pureL rfl ?_)
    refine zl_nil ?_
    refine zk_seq ?_
    refine zc_ret ?_
    refine zk_ret_then ?_
    refine zk_ret1 (.inr rfl) rfl rfl ⟨_, rfl, ?_, hC5.mono (fun _ _ h => h.elim), .inr ⟨_, rfl, Nat.le_refl _⟩⟩
    rw [show i + (n + 1 - i) = n + 1 by omega]
    refine Own.mk' (junk := junk2) (insC_len hcl (by omega) hec) (by omega) g2 hB5 ?_ (insC_one h.2 h1)
    show (insC cs i ec ++ junk2).length = cap2 * 3
    rw [List.length_append, insC_len hcl (by omega) hec]
    rw [List.length_append, List.length_append, hAl, g4] at g5; omega
end Go.Proofs.Yteeibieaapiomaa.D
/- SDel -/
/- slices.Delete: one entry. -/
namespace Go.Z
open Go
section
variable {P : Program} {n : Nat} {e : Env} {w : World} {Q : Exit → Act → World → Prop} {ops : Array Oper} {rest : List Oper}
variable {d : Tmp} {ty : TypeId} {pos : String} {aft : Array Edge} {g : Option (Nat × Bool)}
/-- append where there is room, the row written known whole -/
theorem appendRoom_run {s x : Operand} {t el : TypeId} {sz k m m' cap b b' o' c' : Nat} {z : Value} {cur news : List Value} [hu : Und P t (.slice el)] [hz : Inf P el sz k z]
    (hs : ev e s = some (.slice (some ⟨b, 0, none⟩) m cap)) (hx : ev e x = some (.slice (some ⟨b', o', none⟩) m' c')) (hb : Blk w b el cur) (hl : news.length = m' * sz) (hnews : ∀ j u, news[j]? = some u → w.cell? ⟨b', o' + j, none⟩ = some u) (h1 : ∀ u ∈ news, u.oneCell' = true) (hroom : m + m' ≤ cap) (hfit : m * sz + news.length ≤ cur.length) :
    ∃ w', (∀ a, Ok n e a → (execOp a.eval (⟨some d, .call { callee := .builtin .append, args := #[s, x], argTypes := #[t, t] }, ty, pos, aft, g⟩ : Oper)).run P w = .ok (.value (.slice (some ⟨b, 0, none⟩) (m + m') cap)) w') ∧ Upd w w' b el (lay cur (m * sz) news) := by
  obtain ⟨i, hi1, hi2, hi3, hi4⟩ := hz.ex
  subst hi2
  have hr := run_append_room (P := P) w t ty el i hu.eq hi1 b m cap cur.toArray hb ⟨b', o', none⟩ m' c' news hl (fun j u hj => by rw [addr_add]; exact hnews j u hj) h1 hroom (by simpa using hfit)
  have hr2 : (Builtin.append_ #[t, t] ty #[.slice (some ⟨b, 0, none⟩) m cap, .slice (some ⟨b', o', none⟩) m' c']).run P w = .ok (.slice (some ⟨b, 0, none⟩) (m + m') cap) (w.setRow b (lay cur (m * i.size) news).toArray) := hr
  exact ⟨w.setRow b (lay cur (m * i.size) news).toArray, fun a ha => by simp [execOp, resolve, invoke, builtin, ha.ev hs, ha.ev hx, hr2], Upd.setRow hb⟩
theorem zs_appendRoom {ks : List Nat} {S : World → Prop} {i : Nat} {r : Ord} {s x : Operand} {t el : TypeId} {sz k m m' cap b b' o' c' : Nat} {z : Value} {cur news : List Value} [hu : Und P t (.slice el)] [hz : Inf P el sz k z] (hi : ops[i]? = some ⟨some d, .call { callee := .builtin .append, args := #[s, x], argTypes := #[t, t] }, ty, pos, aft, g⟩) (hw : Want ops e g) (hdn : d < n)
    (hs : ev e s = some (.slice (some ⟨b, 0, none⟩) m cap)) (hx : ev e x = some (.slice (some ⟨b', o', none⟩) m' c')) (hb : Blk w b el cur) (hl : news.length = m' * sz) (hnews : ∀ j u, news[j]? = some u → w.cell? ⟨b', o' + j, none⟩ = some u) (h1 : ∀ u ∈ news, u.oneCell' = true) (hroom : m + m' ≤ cap) (hfit : m * sz + news.length ≤ cur.length)
    (h : ∀ w', Upd w w' b el (lay cur (m * sz) news) → S w' ∧ ZS P n ops ks S r ((d, .slice (some ⟨b, 0, none⟩) (m + m') cap) :: e) w' Q) : ZS P n ops ks S (.all1 i r) e w Q := by
  obtain ⟨w', hr, hU⟩ := appendRoom_run (P := P) (n := n) (d := d) (ty := ty) (pos := pos) (aft := aft) (g := g) (t := t) hs hx hb hl hnews h1 hroom hfit
  obtain ⟨h4, h5⟩ := h w' hU
  exact zs_run hi hw rfl hdn hr h4 h5
theorem z_slice3 {B : Option Addr} {m c s j a b f : Nat} {a' b' f' : Int} {z : Value} {x y0 y1 y2 : Operand} {t el : TypeId} [hu : Und P t (.slice el)] [hz : Inf P el s j z] (hw : Want ops e g) (hdn : d < n) (hx : ev e x = some (.slice B m c)) (h0 : ev e y0 = some (.int .i64 a')) (h1 : ev e y1 = some (.int .i64 b')) (h2 : ev e y2 = some (.int .i64 f')) (ha : a' = (a : Int)) (hb : b' = (b : Int)) (hf : f' = (f : Int)) (hab : a ≤ b) (hbf : b ≤ f) (hc : f ≤ c)
    (h : ∀ v, ZL P n ops rest ((d, v) :: e) w Q) : ZL P n ops (⟨some d, .slice t x (some y0) (some y1) (some y2), ty, pos, aft, g⟩ :: rest) e w Q := by
  subst ha; subst hb; subst hf
  have hsz := hz.size w
  have k1 : (f : Int) ≤ c := by omega
  have k2 : (b : Int) ≤ f := by omega
  have k3 : (a : Int) ≤ b := by omega
  refine zl_run (w' := w) (v := .slice (if f = a then B else B.map (·.add (a * s))) (b - a) (f - a)) hw rfl hdn (fun A hA => ?_) (h _)
  simp [execOp, hA.ev hx, hA.ev h0, hA.ev h1, hA.ev h2, Instr.sliceAt, Instr.slice, run_underlying hu.eq, Instr.sliceBounds, Instr.sliceBound, asIntOf, hsz, k1, k2, k3]
  rw [if_pos hc, if_pos hbf, if_pos hab]
/-- a row of zero values -/
theorem z_clear {x : Operand} {t el : TypeId} {sz k m c b o : Nat} {z : Value} {cur zc : List Value} [hu : Und P t (.slice el)] [hz : Inf P el sz k z] (hw : Want ops e g)
    (hx : ev e x = some (.slice (some ⟨b, o, none⟩) m c)) (hb : Blk w b el cur) (hm : 0 < m) (hzc : (Builtin.zeroCells z.cells m).toList = zc) (hfit : o + zc.length ≤ cur.length) (h1 : ∀ u ∈ zc, u.oneCell' = true)
    (h : ∀ w', Upd w w' b el (lay cur o zc) → ZL P n ops rest e w' Q) : ZL P n ops (⟨none, .call { callee := .builtin .clear, args := #[x], argTypes := #[t] }, ty, pos, aft, g⟩ :: rest) e w Q := by
  unfold ZL at *
  intro a ha
  obtain ⟨i, hi1, hi2, hi3, hi4⟩ := hz.ex
  have hst := run_storeCells_at P b o el zc 0 cur.toArray w hb (by simpa using hfit) h1
  have hr : (execOp a.eval (⟨none, .call { callee := .builtin .clear, args := #[x], argTypes := #[t] }, ty, pos, aft, g⟩ : Oper)).run P w = .ok (.value (.tuple #[])) (w.setRow b (lay cur o zc).toArray) := by
    obtain ⟨m', rfl⟩ : ∃ k, m = k + 1 := ⟨m - 1, by omega⟩
    have hzv : (zeroValue el).run P w = .ok z w := by simp [zeroValue, typeInfo, hi1, hi4]
    simp only [Nat.add_zero] at hst
    simp [execOp, resolve, invoke, builtin, ha.ev hx, Builtin.clear_, run_underlying hu.eq, hzv, hzc, hst, lay]
  refine wpList_step fun K hK => ?_
  rw [if_pos (Want.wanted (o := ⟨none, .call { callee := .builtin .clear, args := #[x], argTypes := #[t] }, ty, pos, aft, g⟩) hw ha)]
  unfold Oper.wp
  rw [hr, Oper.upon_value]
  exact hK _ _ (h _ (Upd.setRow hb) a ha)
end
end Go.Z

namespace Go.Proofs.Yteeibieaapiomaa.D
open Go Go.Z Go.Proofs
set_option linter.unusedVariables false
/-- one entry taken out at i -/
def delC (cs : List Value) (i : Nat) : List Value := cs.take (i * 3) ++ cs.drop ((i + 1) * 3)
theorem del_list {A B R zc : List Value} {a m : Nat} (hm : a = m) (hA : (A ++ B).length = m) (hz : zc.length = 3) : Z.lay (A ++ B ++ R) a zc = A ++ B ++ (zc ++ R.drop 3) := by
  subst hm; subst hA
  unfold Z.lay
  rw [List.take_left, hz, List.drop_length_add_append, List.append_assoc]
theorem lay_mid {A B C : List Value} {a : Nat} (hA : A.length = a) : Z.lay (A ++ C) a B = A ++ B ++ C.drop B.length := by
  subst hA
  unfold Z.lay
  rw [List.take_left, List.drop_length_add_append]
def zc3 : List Value := [.int .i64 0, .int .i64 0, .string ⟨#[]⟩]
set_option maxRecDepth 100000 in
set_option maxHeartbeats 8000000 in
theorem sDel_calls {w : World} {vo : Value} {n i : Nat} {cs : List Value} (h : Own w 74 3 vo n cs) (hn : n ≤ 1000000) (hi : i < n) {i1 : Int} (hi1 : i1 = (i : Int) + 1) :
    Calls Try.prog 54 [vo, .int .i64 i, .int .i64 i1].toArray w fun x w' => ∃ v', x = .returned v' ∧ Own w' 74 3 v' (n - 1) (delC cs i) ∧ Chg w w' (fun k => vo.ownBlock = some k) ∧ v'.ownBlock = vo.ownBlock := by
  subst hi1
  have hcl := h.len
  rcases h.cases.2 with ⟨_, h0, _⟩ | ⟨b, cap, junk, rfl, hcap, hmax, hB, htot⟩
  · omega
  have hAl : (cs.take (i * 3)).length = i * 3 := by rw [List.length_take]; omega
  have hBl : (cs.drop ((i + 1) * 3)).length = (n - 1 - i) * 3 := by rw [List.length_drop]; omega
  refine calls_zc (n := 33) (f := 54) (fn := Try.f54) Try.func54 rfl rfl (by simp) ?_
  refine zc_seq ?_
  refine zc_region ?_
  refine zl_pureL rfl ?_
  refine zl_nil ?_
  refine zk_seq ?_
  refine zc_seq ?_
  refine zc_region ?_
  iterate 4 (refine zl_pureL rfl ?_)
  refine z_len want_none (by decide) rfl ?_
  refine z_slice3 (a := i) (b := i + 1) (f := n) (by first | exact want_none | exact want_L rfl) (by decide) rfl rfl rfl rfl rfl (by omega) (by omega) (by omega) (by omega) (by omega) (fun v13 => ?_)
  refine zl_nil ?_
  refine zk_seq ?_
  iterate 2 (refine zc_seq ?_)
  refine zc_region ?_
  iterate 2 (refine zl_pureL rfl ?_)
  refine z_cmpB (r := false) want_none (by decide) rfl rfl rfl (iff_of_false Bool.false_ne_true (by omega)) ?_
  refine zl_nil ?_
  refine zk_seq ?_
  refine zc_false rfl ?_
  refine zc_skip ?_
  refine zk_seq ?_
  refine zc_seq ?_
  refine zc_region ?_
  refine zl_pureL rfl ?_
  refine z_len want_none (by decide) rfl ?_
  refine zl_pureL rfl ?_
  refine zl_nil ?_
  refine zk_seq ?_
  refine zc_seq ?_
  refine zc_draw [] (fun w' => Chg w w' (· = b)) (.take 0 (.take 1 (.take 2 (.take 3 (.take 4 (.take 5 (.all1 6 (.take 7 (.fin))))))))) (by rfl) (by kernel_rfl) (by kernel_rfl) (fun w2 hC2 _ => ⟨?_, ?_⟩)
  · exact hC2.mono (fun _ _ h => h.elim)
  have hB2 := hB.no hC2
  iterate 2 (refine zs_take rfl (zt_pure rfl ?_))
  refine zs_rdL rfl (by first | exact want_none | exact want_L rfl) rfl (by decide) (fun _ hS => r_cutTo (k := i) (.inr ⟨_, _, rfl⟩) rfl rfl (by omega)) ?_
  iterate 2 (refine zs_take rfl (zt_pure rfl ?_))
  refine zs_rdL rfl (by first | exact want_none | exact want_L rfl) rfl (by decide) (fun _ hS => r_cutFrom (k := i + 1) rfl (optI_eq rfl (by omega)) (by omega) (by omega)) ?_
  obtain ⟨o', ho', ho⟩ : ∃ o', cutA (some ⟨b, 0, none⟩) cap (i + 1) 3 = some ⟨b, o', none⟩ ∧ (i + 1 < cap → o' = (i + 1) * 3) := by
    by_cases hc : i + 1 < cap
    · exact ⟨_, cutA_at hc, fun _ => by omega⟩
    · refine ⟨0, ?_, fun hh => absurd hh hc⟩
      unfold cutA; rw [if_pos (by omega)]
  rw [ho']
  skip
  have hne : ∀ j u, (cs.drop ((i + 1) * 3))[j]? = some u → w2.cell? ⟨b, o' + j, none⟩ = some u := fun j u hj => by
    have hjl := (List.getElem?_eq_some_iff.1 hj).1
    rw [hB2.cell, ho (by omega)]
    rw [List.getElem?_drop] at hj
    rw [List.getElem?_append_left (List.getElem?_eq_some_iff.1 hj).1]; exact hj
  refine zs_appendRoom (sz := 3) (news := cs.drop ((i + 1) * 3)) rfl (by first | exact want_none | exact want_L rfl) (by decide) rfl rfl hB2 (by rw [hBl]; congr 1; omega) hne (fun u hu => h.2 u (List.mem_of_mem_drop hu)) (by omega) (by rw [hBl, List.length_append]; omega) (fun w3 hU3 => ?_)
  refine ⟨(hC2.mono (fun _ _ h => h.elim)).trans hU3.chg (fun _ _ h => h), ?_⟩
  have hB3 := hU3.blk
  rw [show cs ++ junk = cs.take (i * 3) ++ (cs.drop (i * 3) ++ junk) by rw [← List.append_assoc, List.take_append_drop], lay_mid hAl] at hB3
  obtain ⟨R, hR⟩ : ∃ R, R = (cs.drop (i * 3) ++ junk).drop (cs.drop ((i + 1) * 3)).length := ⟨_, rfl⟩
  have hRl : R.length = cap * 3 - (n - 1) * 3 := by
    rw [hR, List.length_drop, List.length_append, List.length_drop, hBl]
    rw [List.length_append] at htot; omega
  rw [← hR] at hB3
  rw [show i + (n - (i + 1)) = n - 1 by omega]
  have hdl : (delC cs i).length = (n - 1) * 3 := by unfold delC; rw [List.length_append, hAl, hBl]; omega
  refine zs_take rfl (zt_pure rfl ?_)
  refine zs_fin ?_
  refine zk_seq ?_
  refine zc_seq ?_
  refine zc_region ?_
  iterate 2 (refine zl_pureL rfl ?_)
  refine z_len want_none (by decide) rfl ?_
  refine zl_pureL rfl ?_
  refine z_cutAB (n - 1) n (by first | exact want_none | exact want_L rfl) (by decide) rfl rfl rfl (by omega) (by omega) (by omega) (by omega) ?_
  rw [if_neg (by omega), Option.map_some, addr_add]
  skip
  refine z_clear (m := n - (n - 1)) (zc := zc3) (by first | exact want_none | exact want_L rfl) rfl hB3 (by omega) (by rw [show n - (n - 1) = 1 by omega]; kernel_rfl) (by show 0 + (n - 1) * 3 + 3 ≤ (delC cs i ++ R).length; rw [List.length_append, hdl, hRl]; omega) (by intro u hu; simp [zc3] at hu; rcases hu with rfl | rfl <;> rfl) (fun w4 hU4 => ?_)
  have hB4 := hU4.blk
  rw [Nat.zero_add] at hB4
  rw [del_list rfl (show (cs.take (i * 3) ++ cs.drop ((i + 1) * 3)).length = (n - 1) * 3 from hdl) rfl] at hB4
  refine zl_nil ?_
  refine zk_seq ?_
  refine zc_seq ?_
  refine zc_region ?_
  iterate 2 (refine zl_pureL rfl ?_)
  refine zl_nil ?_
  refine zk_seq ?_
  refine zc_ret ?_
  refine zk_ret1 (.inr rfl) rfl rfl ⟨_, rfl, Own.mk' (junk := zc3 ++ R.drop 3) hdl (by omega) hmax hB4 ?_ ?_, ?_, rfl⟩
  · show (delC cs i ++ (zc3 ++ R.drop 3)).length = cap * 3
    rw [List.length_append, hdl, List.length_append, List.length_drop, hRl]
    show (n - 1) * 3 + (3 + _) = _
    omega
  · intro u hu
    unfold delC at hu
    rcases List.mem_append.1 hu with hu | hu
    · exact h.2 u (List.mem_of_mem_take hu)
    · exact h.2 u (List.mem_of_mem_drop hu)
  · exact ((hC2.mono (fun _ _ h => h.elim)).trans hU3.chg (fun _ _ h => by rw [h]; rfl)).trans hU4.chg (fun _ _ h => by rw [h]; rfl)
end Go.Proofs.Yteeibieaapiomaa.D
/- SPut -/
/- A Site: place, Put, Drop, Swap. -/
namespace Go.Proofs.Yteeibieaapiomaa.D
open Go Go.Z Go.Proofs
set_option linter.unusedVariables false
def insE (E : List Ent) (i : Nat) (e : Ent) : List Ent := E.take i ++ [e] ++ E.drop i
def delE (E : List Ent) (i : Nat) : List Ent := E.take i ++ E.drop (i + 1)
theorem encE_ins (E : List Ent) (i : Nat) (e : Ent) : encE (insE E i e) = insC (encE E) i (encE [e]) := by
  unfold insE insC
  rw [encE_app, encE_app, encE_take, encE_drop]
theorem encE_del (E : List Ent) (i : Nat) : encE (delE E i) = delC (encE E) i := by
  unfold delE delC
  rw [encE_app, encE_take, encE_drop]
theorem insE_len (E : List Ent) (i : Nat) (e : Ent) (h : i ≤ E.length) : (insE E i e).length = E.length + 1 := by
  unfold insE
  simp only [List.length_append, List.length_take, List.length_drop, List.length_singleton]; omega
theorem delE_len (E : List Ent) (i : Nat) (h : i < E.length) : (delE E i).length = E.length - 1 := by
  unfold delE
  simp only [List.length_append, List.length_take, List.length_drop]; omega
theorem sInsG_calls {w wp : World} {vo : Value} {n i vb : Nat} {cs ec : List Value} (h : Own w 74 3 vo n cs) (hvb : Blk w vb 74 ec) (hec : ec.length = 3) (h1 : ∀ u ∈ ec, u.oneCell' = true) (hne : vo.ownBlock ≠ some vb) (hn : n ≤ 1000000) (hi : i ≤ n) :
    Calls Try.prog 52 [vo, .int .i64 i, .slice (some ⟨vb, 0, none⟩) 1 1].toArray w fun x w' => ∃ v', x = .returned v' ∧ Own w' 74 3 v' (n + 1) (insC cs i ec) ∧ Chg w w' (fun k => vo.ownBlock = some k) ∧ (v'.ownBlock = vo.ownBlock ∨ ∃ k, v'.ownBlock = some k ∧ w.heap.size ≤ k) := by
  rcases Nat.lt_or_ge i n with hlt | hge
  · exact sIns_calls h hvb hec h1 hne hn hlt
  · obtain rfl : i = n := by omega
    have hr : RdS w 74 3 (.slice (some ⟨vb, 0, none⟩) 1 1) 1 ec := RdS.blk hvb (by omega) (Nat.le_refl _) h1 0 (fun j u hj => by simpa using hj)
    refine (sInsEnd_calls h hr hn).mono ?_
    rintro x w' ⟨v', rfl, h2, h3, h4⟩
    refine ⟨v', rfl, ?_, h3, h4⟩
    have : insC cs i ec = cs ++ ec := by
      unfold insC
      have := h.len
      rw [List.take_of_length_le (by omega), List.drop_of_length_le (by omega), List.append_nil]
    rw [this]; exact h2
section
variable {w w' w1 w2 : World} {s : Nat} {q : SP} {E : List Ent} {I : List Bool} {m : ByteArray → Int} {N : List ND} {f : Bool}
/-- where an element stands -/
def PlcR (E : List Ent) (n r : Int) : Prop := r = -1 ∨ ∃ k : Nat, r = k ∧ 1 ≤ k ∧ k < E.length ∧ (E.getD k en0).n = n
set_option maxHeartbeats 8000000 in
theorem sPlace_calls (h : IsS w s q E I m N f) (hE0 : 0 < E.length) (hE : E.length ≤ 1000000) (n : Int) : Calls Try.prog 53 [.pointer (some ⟨s, 0, none⟩), .int .i64 n].toArray w fun x w' => ∃ r, x = .returned (.int .i64 r) ∧ PlcR E n r ∧ Chg w w' No := by
  have hb := h.blk
  obtain ⟨A, c, hv, hc⟩ := h.own.rd.form
  rw [hv] at hb
  refine calls_zc (n := 35) (f := 53) (fn := Try.f53) Try.func53 rfl rfl (by simp) ?_
  by_cases h0 : n = 0
  · refine zc_seq ?_
    refine zc_region ?_
    refine zl_pureL rfl ?_
    refine zl_nil ?_
    refine zk_seq ?_
    iterate 2 (refine zc_seq ?_)
    refine zc_region ?_
    refine zl_pureL rfl ?_
    refine z_cmpB (r := true) want_none (by decide) rfl rfl rfl (iff_of_true rfl (by omega)) ?_
    iterate 3 (refine zl_pureL rfl ?_)
    refine zl_skip rfl ?_
    iterate 2 (refine zl_pureL rfl ?_)
    refine zl_nil ?_
    refine zk_seq ?_
    refine zc_true rfl ?_
    refine zc_seq ?_
    refine zc_region ?_
    refine zl_pureL rfl ?_
    refine zl_nil ?_
    refine zk_seq ?_
    refine zc_ret ?_
    refine zk_ret_then ?_
    exact zk_ret1 (.inr rfl) rfl rfl ⟨_, rfl, .inl rfl, Chg.refl _ _⟩
  refine zc_seq ?_
  refine zc_region ?_
  refine zl_pureL rfl ?_
  refine zl_nil ?_
  refine zk_seq ?_
  iterate 2 (refine zc_seq ?_)
  refine zc_region ?_
  refine zl_pureL rfl ?_
  refine z_cmpB (r := false) want_none (by decide) rfl rfl rfl (iff_of_false Bool.false_ne_true (by omega)) ?_
  iterate 3 (refine zl_pureL rfl ?_)
  refine zl_call (by first | exact want_none | exact want_L rfl) rfl (by decide) rfl (sOpened_calls h n) ?_
  rintro _ u ⟨rfl, hu⟩
  obtain rfl := hu.symm
  refine ⟨_, rfl, ?_⟩
  by_cases ho : opn I n
  rotate_left
  · rw [decide_eq_false ho]
    iterate 2 (refine zl_pureL rfl ?_)
    refine zl_nil ?_
    refine zk_seq ?_
    refine zc_true rfl ?_
    refine zc_seq ?_
    refine zc_region ?_
    refine zl_pureL rfl ?_
    refine zl_nil ?_
    refine zk_seq ?_
    refine zc_ret ?_
    refine zk_ret_then ?_
    exact zk_ret1 (.inr rfl) rfl rfl ⟨_, rfl, .inl rfl, Chg.refl _ _⟩
  rw [decide_eq_true ho]
  iterate 2 (refine zl_pureL rfl ?_)
  refine zl_nil ?_
  refine zk_seq ?_
  refine zc_false rfl ?_
  refine zc_skip ?_
  refine zk_seq ?_
  iterate 2 (refine zc_seq ?_)
  refine zc_region ?_
  iterate 2 (refine zl_pureL rfl ?_)
  refine z_fa want_none (by decide) rfl ?_
  refine z_loadB want_none (by decide) rfl (by assumption) (by rfl) ?_
  refine z_len want_none (by decide) rfl ?_
  refine z_sub want_none (by decide) rfl rfl (by omega) (by omega) ?_
  refine zl_pureL rfl ?_
  refine zl_nil ?_
  refine zk_seq ?_
  refine zc_block ?_
  refine zc_loopW (ι := Nat) (fun k u => [(0, .pointer (some ⟨s, 0, none⟩)), (1, .int .i64 n), (5, .int .i64 (k : Nat))]) (fun k u => k ≤ E.length - 1 ∧ u = w) (fun k u => k) (E.length - 1) ⟨Nat.le_refl _, rfl⟩ ?_ ?_
  · exact ⟨rfl, rfl, get_int rfl (by omega), trivial⟩
  rintro k u ⟨hk, rfl⟩
  cases k with
  | zero =>
    iterate 2 (refine zc_seq ?_)
    refine zc_region ?_
    refine zl_pureL rfl ?_
    refine z_cmpB (r := false) want_none (by decide) rfl rfl rfl (iff_of_false Bool.false_ne_true (by omega)) ?_
    refine zl_nil ?_
    refine zk_seq ?_
    refine zc_false rfl ?_
    refine zc_exit ?_
    iterate 2 (refine zk_exit_then ?_)
    refine zk_exit_block ?_
    refine zk_seq ?_
    refine zc_seq ?_
    refine zc_region ?_
    refine zl_pureL rfl ?_
    refine zl_nil ?_
    refine zk_seq ?_
    refine zc_ret ?_
    exact zk_ret1 (.inr rfl) rfl rfl ⟨_, rfl, .inl rfl, Chg.refl _ _⟩
  | succ k =>
    obtain ⟨b, o, c', hv', h0', _, _⟩ := h.at_ (k + 1) (by omega)
    rw [hv] at hv'
    cases hv'
    iterate 2 (refine zc_seq ?_)
    refine zc_region ?_
    refine zl_pureL rfl ?_
    refine z_cmpB (r := true) want_none (by decide) rfl rfl rfl (iff_of_true rfl (by omega)) ?_
    refine zl_nil ?_
    refine zk_seq ?_
    refine zc_true rfl ?_
    refine zc_skip ?_
    refine zk_seq ?_
    refine zc_seq ?_
    refine zc_block ?_
    refine zc_seq ?_
    refine zc_region ?_
    iterate 2 (refine zl_pureL rfl ?_)
    refine z_fa want_none (by decide) rfl ?_
    refine z_loadB want_none (by decide) rfl (by assumption) (by rfl) ?_
    refine zl_pureL rfl ?_
    refine z_ia want_none (by decide) rfl rfl (by omega) (by omega) ?_
    refine z_fa want_none (by decide) rfl ?_
    refine z_load1 want_none (by decide) rfl (by assumption) ?_
    refine zl_pureL rfl ?_
    by_cases hq : ((E.getD (k + 1) en0).n : Int) = n
    · refine z_cmpB (r := true) want_none (by decide) rfl rfl rfl (iff_of_true rfl (by omega)) ?_
      refine zl_nil ?_
      refine zk_seq ?_
      refine zc_true rfl ?_
      refine zc_seq ?_
      refine zc_region ?_
      iterate 2 (refine zl_pureL rfl ?_)
      refine zl_nil ?_
      refine zk_seq ?_
      refine zc_ret ?_
      refine zk_ret_block ?_
      iterate 2 (refine zk_ret_then ?_)
      refine zk_ret_block ?_
      refine zk_ret_then ?_
      exact zk_ret1 (.inr rfl) rfl rfl ⟨_, rfl, .inr ⟨k + 1, rfl, by omega, by omega, hq⟩, Chg.refl _ _⟩
    · refine z_cmpB (r := false) want_none (by decide) rfl rfl rfl (iff_of_false Bool.false_ne_true (by omega)) ?_
      refine zl_nil ?_
      refine zk_seq ?_
      refine zc_false rfl ?_
      refine zc_skip ?_
      refine zk_norm_block ?_
      refine zk_seq ?_
      refine zc_region ?_
      refine zl_pureL rfl ?_
      refine z_sub want_none (by decide) rfl rfl (by omega) (by omega) ?_
      refine zl_pureL rfl ?_
      refine zl_nil ?_
      refine zk_loopW k ⟨by omega, rfl⟩ (by omega) ⟨rfl, rfl, get_int rfl (by omega), trivial⟩
set_option maxRecDepth 100000 in
set_option maxHeartbeats 16000000 in
theorem sPut_calls (h : IsS w s q E I m N f) (hB : BigT N) (i n : Int) (hN : N.length ≤ 1000000) (hE0 : 0 < E.length) (hE : E.length ≤ 900000) (hI : I.length ≤ 1000000) (hm : SmallM m) :
    Calls Try.prog 16 [.pointer (some ⟨s, 0, none⟩), .int .i64 i, .int .i64 n].toArray w fun x w' => ∃ p vo vi, x = .returned (.bool p) ∧ WrS w w' s q { q with vo := vo, vi := vi } ∧
      ((p = true ∧ freshB N I n = true ∧ (1 ≤ i ∧ i ≤ E.length) ∧ IsS w' s { q with vo := vo, vi := vi } (insE E i.toNat (entN N n.toNat)) (comI I n.toNat) (cntM m (entN N n.toNat) 1) N f) ∨ (p = false ∧ IsS w' s { q with vo := vo, vi := vi } E I m N f)) := by
  have hb := h.blk
  obtain ⟨A, c, hv, hc⟩ := h.own.rd.form
  refine calls_zc (n := 44) (f := 16) (fn := Try.f16) Try.func16 rfl rfl (by simp) ?_
  refine zc_seq ?_
  refine zc_region ?_
  refine zl_pureL rfl ?_
  refine zl_nil ?_
  refine zk_seq ?_
  refine zc_seq ?_
  refine zc_region ?_
  iterate 2 (refine zl_pureL rfl ?_)
  refine zl_call (by first | exact want_none | exact want_L rfl) rfl (by decide) rfl (sFresh_calls h hB n) ?_
  rintro _ w1 ⟨rfl, hC1⟩
  refine ⟨_, rfl, ?_⟩
  iterate 3 (refine zl_pureL rfl ?_)
  refine z_alloc (by first | exact want_none | exact want_L rfl) (by decide) (fun w2 b2 hN2 => ?_)
  have hb2 : Blk w2 b2 74 [.int .i64 0, .int .i64 0, .string ⟨#[]⟩] := hN2.blk
  refine z_store (by first | exact want_none | exact want_L rfl) rfl rfl rfl (by assumption) (by first | exact Nat.le_refl _ | simp [Value.cells]) (by simp [Value.cells, Value.oneCell']) (fun w3 hU3 => ?_)
  have hb3 : Blk w3 b2 74 [.int .i64 n, .int .i64 (nodeOf N n).space, .string (nodeOf N n).name] := hU3.blk
  have hC3 : Chg w w3 No := (hC1.no hN2.chg).upd hU3 (by have := hN2.at_; have := hC1.size; omega)
  have h3 := h.no hC3
  have hbs3 := h3.blk
  rw [hv] at hbs3
  cases hfr : freshB N I n
  · refine zl_pureL rfl ?_
    refine zl_nil ?_
    refine zk_seq ?_
    iterate 2 (refine zc_seq ?_)
    refine zc_region ?_
    iterate 4 (refine zl_pureL rfl ?_)
    refine zl_skip rfl ?_
    iterate 5 (refine zl_pureL rfl ?_)
    iterate 4 (refine zl_skip rfl ?_)
    refine zl_pureL rfl ?_
    refine zl_nil ?_
    refine zk_seq ?_
    refine zc_true rfl ?_
    refine zc_seq ?_
    refine zc_region ?_
    refine zl_pureL rfl ?_
    refine zl_nil ?_
    refine zk_seq ?_
    refine zc_ret ?_
    refine zk_ret_then ?_
    exact zk_ret1 (.inr rfl) rfl rfl ⟨_, q.vo, q.vi, rfl, WrS.of_no hC3 _ _, .inr ⟨rfl, h3⟩⟩
  have hfr' := hfr
  unfold freshB at hfr'
  rw [decide_eq_true_eq] at hfr'
  have hin : isN N n := by
    have := hfr'.1
    unfold nodeOf at this
    split at this
    · assumption
    · simp [n0] at this
  obtain ⟨k, rfl⟩ : ∃ k : Nat, n = k := ⟨n.toNat, by have := hin.1; omega⟩
  have hnd : nodeOf N (k : Nat) = N.getD k n0 := if_pos hin
  have hkN : k < N.length := by have := hin.2; omega
  rw [hnd] at hb3
  rw [hnd]
  by_cases hi1 : i < 1
  · refine zl_pureL rfl ?_
    refine zl_nil ?_
    refine zk_seq ?_
    iterate 2 (refine zc_seq ?_)
    refine zc_region ?_
    iterate 4 (refine zl_pureL rfl ?_)
    refine z_cmpB (r := true) (want_L rfl) (by decide) rfl rfl rfl (iff_of_true rfl (by omega)) ?_
    iterate 5 (refine zl_pureL rfl ?_)
    iterate 4 (refine zl_skip rfl ?_)
    refine zl_pureL rfl ?_
    refine zl_nil ?_
    refine zk_seq ?_
    refine zc_true rfl ?_
    refine zc_seq ?_
    refine zc_region ?_
    refine zl_pureL rfl ?_
    refine zl_nil ?_
    refine zk_seq ?_
    refine zc_ret ?_
    refine zk_ret_then ?_
    exact zk_ret1 (.inr rfl) rfl rfl ⟨_, q.vo, q.vi, rfl, WrS.of_no hC3 _ _, .inr ⟨rfl, h3⟩⟩
  obtain ⟨j, rfl⟩ : ∃ j : Nat, i = j := ⟨i.toNat, by omega⟩
  by_cases hi2 : (j : Int) > E.length
  · refine zl_pureL rfl ?_
    refine zl_nil ?_
    refine zk_seq ?_
    iterate 2 (refine zc_seq ?_)
    refine zc_region ?_
    iterate 4 (refine zl_pureL rfl ?_)
    refine z_cmpB (r := false) (want_L rfl) (by decide) rfl rfl rfl (iff_of_false Bool.false_ne_true (by omega)) ?_
    iterate 5 (refine zl_pureL rfl ?_)
    refine z_fa (want_L rfl) (by decide) rfl ?_
    refine z_loadB (want_L rfl) (by decide) rfl (by assumption) (by rfl) ?_
    refine z_len (want_L rfl) (by decide) rfl ?_
    refine z_cmpB (r := true) (want_L rfl) (by decide) rfl rfl rfl (iff_of_true rfl (by omega)) ?_
    refine zl_pureL rfl ?_
    refine zl_nil ?_
    refine zk_seq ?_
    refine zc_true rfl ?_
    refine zc_seq ?_
    refine zc_region ?_
    refine zl_pureL rfl ?_
    refine zl_nil ?_
    refine zk_seq ?_
    refine zc_ret ?_
    refine zk_ret_then ?_
    exact zk_ret1 (.inr rfl) rfl rfl ⟨_, q.vo, q.vi, rfl, WrS.of_no hC3 _ _, .inr ⟨rfl, h3⟩⟩
  refine zl_pureL rfl ?_
  refine zl_nil ?_
  refine zk_seq ?_
  iterate 2 (refine zc_seq ?_)
  refine zc_region ?_
  iterate 4 (refine zl_pureL rfl ?_)
  refine z_cmpB (r := false) (want_L rfl) (by decide) rfl rfl rfl (iff_of_false Bool.false_ne_true (by omega)) ?_
  iterate 5 (refine zl_pureL rfl ?_)
  refine z_fa (want_L rfl) (by decide) rfl ?_
  refine z_loadB (want_L rfl) (by decide) rfl (by assumption) (by rfl) ?_
  refine z_len (want_L rfl) (by decide) rfl ?_
  refine z_cmpB (r := false) (want_L rfl) (by decide) rfl rfl rfl (iff_of_false Bool.false_ne_true (by omega)) ?_
  refine zl_pureL rfl ?_
  refine zl_nil ?_
  refine zk_seq ?_
  refine zc_false rfl ?_
  refine zc_skip ?_
  refine zk_seq ?_
  refine zc_seq ?_
  refine zc_region ?_
  refine zl_pureL rfl ?_
  refine z_loadAB want_none (by decide) rfl (by assumption) (by rfl) ?_
  refine zl_call (by first | exact want_none | exact want_L rfl) rfl (by decide) rfl (sComes_calls h3 (entN N k) (show k ≤ 1000000 by omega) hI hm) ?_
  rintro _ w4 ⟨rfl, vi, h4, hW4⟩
  refine ⟨_, rfl, ?_⟩
  have hs4 := hW4.chg.size
  have hb4 : Blk w4 b2 74 [.int .i64 k, .int .i64 (N.getD k n0).space, .string (N.getD k n0).name] := hb3.chg hW4.chg (fun hf => by
    have := hN2.at_
    have := hC1.size
    have hlt := h.lt b2 (by simpa [footS] using hf)
    omega)
  have hbs4 := h4.blk
  dsimp only at hbs4
  rw [hv] at hbs4
  refine zl_nil ?_
  refine zk_seq ?_
  refine zc_seq ?_
  refine zc_draw [11] (fun w' => Blk w' s 72 [.pointer (some ⟨q.pd, 0, none⟩), .pointer (some ⟨q.pm, 0, none⟩), .slice A E.length c, vi, .map (some q.r), .bool f] ∧ Blk w' b2 74 [.int .i64 k, .int .i64 (N.getD k n0).space, .string (N.getD k n0).name]) (.take 0 (.take 1 (.take 2 (.take 3 (.take 4 (.take 5 (.take 6 (.all1 7 (.all1 8 (.plain 9 (.take 10 (.last 11)))))))))))) (by rfl) (by kernel_rfl) (by kernel_rfl) (fun w5 hC5 _ => ⟨?_, ?_⟩)
  · exact ⟨hbs4.no hC5, hb4.no hC5⟩
  iterate 3 (refine zs_take rfl (zt_pure rfl ?_))
  refine zs_rdL rfl want_none rfl (by decide) (fun _ hS => r_fa rfl) ?_
  refine zs_rdL rfl want_none rfl (by decide) (fun _ hS => r_loadB rfl hS.1 (by rfl)) ?_
  refine zs_take rfl (zt_pure rfl ?_)
  refine zs_rdL rfl want_none rfl (by decide) (fun _ hS => r_loadAB rfl hS.2 (by rfl)) ?_
  refine zs_bs1 rfl (by first | exact want_none | exact want_L rfl) (by decide) rfl (by rfl) (by rfl) (by decide) (by decide) (fun w6 b6 hN6 => ?_)
  have h6 := (h4.no hC5).no hN6.chg
  have hb6s := (hbs4.no hC5).no hN6.chg
  have hb6 := (hb4.no hC5).no hN6.chg
  refine ⟨⟨hb6s, hb6⟩, ?_⟩
  have hvb6 : Blk w6 b6 74 (encE [entN N k]) := hN6.blk
  have hO6 := h6.own
  dsimp only at hO6
  skip
  refine zs_call rfl (by first | exact want_none | exact want_L rfl) rfl (by decide) rfl (sInsG_calls (wp := w6) (by rw [hv] at hO6; exact hO6) hvb6 rfl (encE_one _) (fun he => by
    rw [← hv] at he
    have := h.own.lt he
    have := hN6.at_
    have := hC5.size
    have := hC3.size
    omega) (by omega) (show j ≤ E.length by omega)) ?_
  rintro _ w7 ⟨v7, rfl, hO7, hX7, hr7⟩
  have hR7 : OneT w6 74 (fun k => (Value.slice A E.length c).ownBlock = some k) := fun k hk => by rw [← hv] at hk; exact hO6.blk hk
  have hb7s := hb6s.typ hX7 hR7 (by decide)
  have hb7 := hb6.chg hX7 (fun he => by
    rw [← hv] at he
    have := h.own.lt he
    have := hN2.at_
    have := hC1.size
    omega)
  refine ⟨_, rfl, ⟨hb7s, hb7⟩, ?_⟩
  obtain ⟨A7, c7, hv7, _⟩ := hO7.rd.form
  subst hv7
  refine zs_plainL rfl rfl ?_
  refine zs_rdL rfl want_none rfl (by decide) (fun _ hS => r_fa rfl) ?_
  refine zs_storeL rfl (by first | exact want_none | exact want_L rfl) rfl rfl rfl (by assumption) (by first | exact Nat.le_refl _ | simp [Value.cells]) (by simp [Value.cells, Value.oneCell']) (fun w8 hU8 => ?_)
  obtain ⟨g1, g2⟩ := h6.growO (E' := insE E j (entN N k)) (v := .slice A7 (E.length + 1) c7) (by dsimp only; rw [hv]; exact hX7) (by rw [insE_len _ _ _ (by omega), encE_ins]; exact hO7) (by dsimp only; rw [hv]; exact hr7) hU8
  refine zk_seq ?_
  refine zc_seq ?_
  refine zc_region ?_
  refine zl_pureL rfl ?_
  refine zl_nil ?_
  refine zk_seq ?_
  refine zc_ret ?_
  exact zk_ret1 (.inr rfl) rfl rfl ⟨_, _, vi, rfl, ((WrS.of_no hC3 _ _).trans hW4).trans (((WrS.of_no hC5 _ _).no hN6.chg).trans g2), .inl ⟨rfl, rfl, ⟨by omega, by omega⟩, g1⟩⟩
end
end Go.Proofs.Yteeibieaapiomaa.D
/- SDrop -/
/- A Site: Drop, Swap, Open. -/
namespace Go.Proofs.Yteeibieaapiomaa.D
open Go Go.Z Go.Proofs
set_option linter.unusedVariables false
section
variable {w w' w1 w2 : World} {s : Nat} {q : SP} {E : List Ent} {I : List Bool} {m : ByteArray → Int} {N : List ND} {f : Bool}
set_option maxRecDepth 100000 in
set_option maxHeartbeats 8000000 in
theorem sDrop_calls (h : IsS w s q E I m N f) (hE0 : 0 < E.length) (hE : E.length ≤ 1000000) (hI : ∀ k, k < E.length → (E.getD k en0).n < I.length) (hm : SmallM m) (n : Int) :
    Calls Try.prog 18 [.pointer (some ⟨s, 0, none⟩), .int .i64 n].toArray w fun x w' => ∃ p vo, x = .returned (.bool p) ∧ WrS w w' s q { q with vo := vo } ∧
      ((p = true ∧ ∃ k, 1 ≤ k ∧ k < E.length ∧ (E.getD k en0).n = n ∧ IsS w' s { q with vo := vo } (delE E k) (I.set (E.getD k en0).n false) (cntM m (E.getD k en0) (-1)) N f) ∨ (p = false ∧ IsS w' s { q with vo := vo } E I m N f)) := by
  refine calls_zc (n := 31) (f := 18) (fn := Try.f18) Try.func18 rfl rfl (by simp) ?_
  refine zc_seq ?_
  refine zc_region ?_
  refine zl_pureL rfl ?_
  refine zl_nil ?_
  refine zk_seq ?_
  refine zc_seq ?_
  refine zc_region ?_
  iterate 2 (refine zl_pureL rfl ?_)
  refine zl_call (by first | exact want_none | exact want_L rfl) rfl (by decide) rfl (sPlace_calls h hE0 hE n) ?_
  rintro _ w1 ⟨r, rfl, hr, hC1⟩
  refine ⟨_, rfl, ?_⟩
  have h1 := h.no hC1
  rcases hr with rfl | ⟨k, rfl, hk1, hkE, hkn⟩
  · refine zl_pureL rfl ?_
    refine zl_nil ?_
    refine zk_seq ?_
    iterate 2 (refine zc_seq ?_)
    refine zc_region ?_
    refine zl_pureL rfl ?_
    refine z_cmpB (r := true) want_none (by decide) rfl rfl rfl (iff_of_true rfl (by omega)) ?_
    refine zl_nil ?_
    refine zk_seq ?_
    refine zc_true rfl ?_
    refine zc_seq ?_
    refine zc_region ?_
    refine zl_pureL rfl ?_
    refine zl_nil ?_
    refine zk_seq ?_
    refine zc_ret ?_
    refine zk_ret_then ?_
    exact zk_ret1 (.inr rfl) rfl rfl ⟨_, q.vo, rfl, WrS.of_no hC1 _ _, .inr ⟨rfl, h1⟩⟩
  obtain ⟨b, o, c, hv, g0, g1, g2⟩ := h1.at_ k hkE
  obtain ⟨en, hen⟩ : ∃ en, en = E.getD k en0 := ⟨_, rfl⟩
  rw [← hen] at g0 g1 g2 hkn
  have hb := h1.blk
  rw [hv] at hb
  refine zl_pureL rfl ?_
  refine zl_nil ?_
  refine zk_seq ?_
  iterate 2 (refine zc_seq ?_)
  refine zc_region ?_
  refine zl_pureL rfl ?_
  refine z_cmpB (r := false) want_none (by decide) rfl rfl rfl (iff_of_false Bool.false_ne_true (by omega)) ?_
  refine zl_nil ?_
  refine zk_seq ?_
  refine zc_false rfl ?_
  refine zc_skip ?_
  refine zk_seq ?_
  refine zc_seq ?_
  refine zc_region ?_
  iterate 3 (refine zl_pureL rfl ?_)
  refine z_fa want_none (by decide) rfl ?_
  refine z_loadB want_none (by decide) rfl (by assumption) (by rfl) ?_
  refine zl_pureL rfl ?_
  refine z_ia want_none (by decide) rfl rfl (by omega) (by omega) ?_
  refine z_loadA (by rfl) (by first | exact want_none | exact want_L rfl) (by decide) rfl (agg3 g0 g1 g2 (by omega)) ?_
  refine zl_call (by first | exact want_none | exact want_L rfl) rfl (by decide) rfl (sGoes_calls h1 en (by rw [hen]; exact hI k hkE) hm) ?_
  rintro _ w2 ⟨rfl, h2, hW2⟩
  refine ⟨_, rfl, ?_⟩
  have hb2 := h2.blk
  rw [hv] at hb2
  have hO2 := h2.own
  rw [hv] at hO2
  refine zl_nil ?_
  refine zk_seq ?_
  refine zc_seq ?_
  refine zc_region ?_
  iterate 3 (refine zl_pureL rfl ?_)
  refine z_fa want_none (by decide) rfl ?_
  refine z_loadB want_none (by decide) rfl (by assumption) (by rfl) ?_
  iterate 2 (refine zl_pureL rfl ?_)
  refine z_add want_none (by decide) rfl rfl (by omega) (by omega) ?_
  refine zl_call (by first | exact want_none | exact want_L rfl) rfl (by decide) rfl (sDel_calls hO2 (by omega) hkE (i1 := (k : Int) + 1) rfl) ?_
  rintro _ w3 ⟨v3, rfl, hO3, hX3, ho3⟩
  refine ⟨_, rfl, ?_⟩
  have hb3 := hb2.typ hX3 (fun j hj => hO2.blk hj) (by decide)
  obtain ⟨A3, c3, hv3, _⟩ := hO3.rd.form
  subst hv3
  refine zl_pureL rfl ?_
  refine z_fa want_none (by decide) rfl ?_
  refine z_store (by first | exact want_none | exact want_L rfl) rfl rfl rfl (by assumption) (by first | exact Nat.le_refl _ | simp [Value.cells]) (by simp [Value.cells, Value.oneCell']) (fun w4 hU4 => ?_)
  obtain ⟨g5, g6⟩ := h2.growO (E' := delE E k) (v := .slice A3 (E.length - 1) c3) (by rw [hv]; exact hX3) (by rw [delE_len _ _ hkE, encE_del]; exact hO3) (by rw [hv]; exact .inl ho3) hU4
  refine zl_nil ?_
  refine zk_seq ?_
  refine zc_seq ?_
  refine zc_region ?_
  refine zl_pureL rfl ?_
  refine zl_nil ?_
  refine zk_seq ?_
  refine zc_ret ?_
  exact zk_ret1 (.inr rfl) rfl rfl ⟨_, _, rfl, ((WrS.of_no hC1 _ _).trans hW2).trans g6, .inl ⟨rfl, k, hk1, hkE, by rw [← hen]; exact hkn, by rw [← hen]; exact g5⟩⟩
theorem encE_set (E : List Ent) (k : Nat) (e : Ent) (hk : k < E.length) : encE (E.set k e) = Z.lay (encE E) (k * 3) e.cells := by
  rw [List.set_eq_take_append_cons_drop, if_pos hk]
  unfold Z.lay
  rw [encE_app, encE_take]
  show _ ++ (e.cells ++ encE (E.drop (k + 1))) = _
  have hl : e.cells.length = 3 := rfl
  rw [encE_drop, List.append_assoc, hl, Nat.succ_mul]
set_option maxRecDepth 100000 in
set_option maxHeartbeats 16000000 in
theorem sSwap_calls (h : IsS w s q E I m N f) (hB : BigT N) (hN : N.length ≤ 1000000) (hE0 : 0 < E.length) (hE : E.length ≤ 1000000) (hI : ∀ k, k < E.length → (E.getD k en0).n < I.length) (hI2 : I.length ≤ 1000000) (hm : SmallM m) (hm2 : ∀ e ∈ E, SmallM (cntM m e (-1))) (n n2 : Int) :
    Calls Try.prog 17 [.pointer (some ⟨s, 0, none⟩), .int .i64 n, .int .i64 n2].toArray w fun x w' => ∃ p vo vi, x = .returned (.bool p) ∧ WrS w w' s q { q with vo := vo, vi := vi } ∧
      ((p = true ∧ freshB N I n2 = true ∧ ∃ k, 1 ≤ k ∧ k < E.length ∧ (E.getD k en0).n = n ∧ IsS w' s { q with vo := vo, vi := vi } (E.set k (entN N n2.toNat)) (comI (I.set (E.getD k en0).n false) n2.toNat) (cntM (cntM m (E.getD k en0) (-1)) (entN N n2.toNat) 1) N f) ∨ (p = false ∧ IsS w' s { q with vo := vo, vi := vi } E I m N f)) := by
  refine calls_zc (n := 44) (f := 17) (fn := Try.f17) Try.func17 rfl rfl (by simp) ?_
  refine zc_seq ?_
  refine zc_region ?_
  refine zl_pureL rfl ?_
  refine zl_nil ?_
  refine zk_seq ?_
  refine zc_seq ?_
  refine zc_region ?_
  iterate 2 (refine zl_pureL rfl ?_)
  refine zl_call (by first | exact want_none | exact want_L rfl) rfl (by decide) rfl (sPlace_calls h hE0 hE n) ?_
  rintro _ w0 ⟨r, rfl, hr, hC0⟩
  refine ⟨_, rfl, ?_⟩
  have h0 := h.no hC0
  refine zl_pureL rfl ?_
  refine zl_nil ?_
  refine zk_seq ?_
  refine zc_seq ?_
  refine zc_region ?_
  iterate 2 (refine zl_pureL rfl ?_)
  refine zl_call (by first | exact want_none | exact want_L rfl) rfl (by decide) rfl (sFresh_calls h0 hB n2) ?_
  rintro _ w1 ⟨rfl, hC1⟩
  refine ⟨_, rfl, ?_⟩
  iterate 3 (refine zl_pureL rfl ?_)
  refine z_alloc (by first | exact want_none | exact want_L rfl) (by decide) (fun w2 b2 hN2 => ?_)
  have hb2 : Blk w2 b2 74 [.int .i64 0, .int .i64 0, .string ⟨#[]⟩] := hN2.blk
  refine z_store (by first | exact want_none | exact want_L rfl) rfl rfl rfl (by assumption) (by first | exact Nat.le_refl _ | simp [Value.cells]) (by simp [Value.cells, Value.oneCell']) (fun w3 hU3 => ?_)
  have hb3 : Blk w3 b2 74 [.int .i64 n2, .int .i64 (nodeOf N n2).space, .string (nodeOf N n2).name] := hU3.blk
  have hC03 : Chg w0 w3 No := (hC1.no hN2.chg).upd hU3 (by have := hN2.at_; have := hC1.size; omega)
  have hC3 : Chg w w3 No := hC0.no hC03
  have h3 := h.no hC3
  have hge2 : w.heap.size ≤ b2 := by have := hN2.at_; have := hC1.size; have := hC0.size; omega
  rcases hr with rfl | ⟨k, rfl, hk1, hkE, hkn⟩
  · refine zl_pureL rfl ?_
    refine zl_nil ?_
    refine zk_seq ?_
    iterate 2 (refine zc_seq ?_)
    refine zc_region ?_
    refine zl_pureL rfl ?_
    refine z_cmpB (r := true) want_none (by decide) rfl rfl rfl (iff_of_true rfl (by omega)) ?_
    iterate 4 (refine zl_pureL rfl ?_)
    refine zl_nil ?_
    refine zk_seq ?_
    refine zc_true rfl ?_
    refine zc_seq ?_
    refine zc_region ?_
    refine zl_pureL rfl ?_
    refine zl_nil ?_
    refine zk_seq ?_
    refine zc_ret ?_
    refine zk_ret_then ?_
    exact zk_ret1 (.inr rfl) rfl rfl ⟨_, q.vo, q.vi, rfl, WrS.of_no hC3 _ _, .inr ⟨rfl, h3⟩⟩
  cases hfr : freshB N I n2
  · refine zl_pureL rfl ?_
    refine zl_nil ?_
    refine zk_seq ?_
    iterate 2 (refine zc_seq ?_)
    refine zc_region ?_
    refine zl_pureL rfl ?_
    refine z_cmpB (r := false) want_none (by decide) rfl rfl rfl (iff_of_false Bool.false_ne_true (by omega)) ?_
    iterate 4 (refine zl_pureL rfl ?_)
    refine zl_nil ?_
    refine zk_seq ?_
    refine zc_true rfl ?_
    refine zc_seq ?_
    refine zc_region ?_
    refine zl_pureL rfl ?_
    refine zl_nil ?_
    refine zk_seq ?_
    refine zc_ret ?_
    refine zk_ret_then ?_
    exact zk_ret1 (.inr rfl) rfl rfl ⟨_, q.vo, q.vi, rfl, WrS.of_no hC3 _ _, .inr ⟨rfl, h3⟩⟩
  have hfr' := hfr
  unfold freshB at hfr'
  rw [decide_eq_true_eq] at hfr'
  have hin : isN N n2 := by
    have := hfr'.1
    unfold nodeOf at this
    split at this
    · assumption
    · simp [n0] at this
  obtain ⟨j, rfl⟩ : ∃ k : Nat, n2 = k := ⟨n2.toNat, by have := hin.1; omega⟩
  have hnd : nodeOf N (j : Nat) = N.getD j n0 := if_pos hin
  have hjN : j < N.length := by have := hin.2; omega
  rw [hnd] at hb3
  obtain ⟨b, o, c, hv, g0, g1, g2⟩ := h3.at_ k hkE
  have hmem : E.getD k en0 ∈ E := getD_mem hkE
  have hIk := hI k hkE
  obtain ⟨en, hen⟩ : ∃ en, en = E.getD k en0 := ⟨_, rfl⟩
  rw [← hen] at g0 g1 g2 hkn hmem hIk
  have hbs := h3.blk
  rw [hv] at hbs
  refine zl_pureL rfl ?_
  refine zl_nil ?_
  refine zk_seq ?_
  iterate 2 (refine zc_seq ?_)
  refine zc_region ?_
  refine zl_pureL rfl ?_
  refine z_cmpB (r := false) want_none (by decide) rfl rfl rfl (iff_of_false Bool.false_ne_true (by omega)) ?_
  iterate 4 (refine zl_pureL rfl ?_)
  refine zl_nil ?_
  refine zk_seq ?_
  refine zc_false rfl ?_
  refine zc_skip ?_
  refine zk_seq ?_
  refine zc_seq ?_
  refine zc_region ?_
  iterate 3 (refine zl_pureL rfl ?_)
  refine z_fa want_none (by decide) rfl ?_
  refine z_loadB want_none (by decide) rfl (by assumption) (by rfl) ?_
  refine zl_pureL rfl ?_
  refine z_ia want_none (by decide) rfl rfl (by omega) (by omega) ?_
  refine z_loadA (by rfl) (by first | exact want_none | exact want_L rfl) (by decide) rfl (agg3 g0 g1 g2 (by omega)) ?_
  refine zl_call (by first | exact want_none | exact want_L rfl) rfl (by decide) rfl (sGoes_calls h3 en hIk hm) ?_
  rintro _ w4 ⟨rfl, h4, hW4⟩
  refine ⟨_, rfl, ?_⟩
  have hb4 : Blk w4 b2 74 [.int .i64 j, .int .i64 (N.getD j n0).space, .string (N.getD j n0).name] := hb3.chg hW4.chg (fun hf => by have := h.lt b2 hf; omega)
  refine zl_nil ?_
  refine zk_seq ?_
  refine zc_seq ?_
  refine zc_region ?_
  refine zl_pureL rfl ?_
  refine z_loadAB want_none (by decide) rfl (by assumption) (by rfl) ?_
  refine zl_call (by first | exact want_none | exact want_L rfl) rfl (by decide) rfl (sComes_calls h4 (entN N j) (show j ≤ 1000000 by omega) (by rw [List.length_set]; exact hI2) (hm2 en hmem)) ?_
  rintro _ w5 ⟨rfl, vi, h5, hW5⟩
  refine ⟨_, rfl, ?_⟩
  have hb5 : Blk w5 b2 74 [.int .i64 j, .int .i64 (N.getD j n0).space, .string (N.getD j n0).name] := hb4.chg hW5.chg (fun hf => by have := h.lt b2 (by simpa [footS] using hf); omega)
  have hbs5 := h5.blk
  dsimp only at hbs5
  rw [hv] at hbs5
  refine zl_nil ?_
  refine zk_seq ?_
  refine zc_seq ?_
  refine zc_draw [7] (fun w' => Blk w' s 72 [.pointer (some ⟨q.pd, 0, none⟩), .pointer (some ⟨q.pm, 0, none⟩), .slice (some ⟨b, o, none⟩) E.length c, vi, .map (some q.r), .bool f] ∧ Blk w' b2 74 [.int .i64 j, .int .i64 (N.getD j n0).space, .string (N.getD j n0).name]) (.take 0 (.take 1 (.take 2 (.take 3 (.take 4 (.take 5 (.take 6 (.last 7)))))))) (by rfl) (by kernel_rfl) (by kernel_rfl) (fun w6 hC6 _ => ⟨?_, ?_⟩)
  · exact ⟨hbs5.no hC6, hb5.no hC6⟩
  have h6 := h5.no hC6
  have hO6 := h6.own
  dsimp only at hO6
  iterate 2 (refine zs_take rfl (zt_pure rfl ?_))
  refine zs_rdL rfl want_none rfl (by decide) (fun _ hS => r_fa rfl) ?_
  refine zs_rdL rfl want_none rfl (by decide) (fun _ hS => r_loadB rfl hS.1 (by rfl)) ?_
  refine zs_take rfl (zt_pure rfl ?_)
  refine zs_rdL rfl want_none rfl (by decide) (fun _ hS => r_loadAB rfl hS.2 (by rfl)) ?_
  refine zs_rdL rfl want_none rfl (by decide) (fun _ hS => r_ia rfl rfl (by omega) (by omega)) ?_
  obtain ⟨b', c', hv', _⟩ := own_b h3.own (by omega)
  rw [hv] at hv'
  cases hv'
  rw [hv] at hO6
  obtain ⟨cells, hBo, hfit, _, hnew⟩ := hO6.lay (o := k * 3) (vs := (entN N j).cells) (by show k * 3 + 3 ≤ _; rw [encE_len]; omega) (by intro u hu; simp only [Ent.cells, List.mem_cons, List.not_mem_nil, or_false] at hu; rcases hu with rfl | rfl | rfl <;> rfl)
  refine zs_storeL (o := k * 3) rfl (by first | exact want_none | exact want_L rfl) (ev_ptr rfl (by omega)) rfl rfl hBo (show k * 3 + 3 ≤ cells.length by simpa [Ent.cells] using hfit) (by simp [Value.cells, Value.oneCell']) (fun w7 hU7 => ?_)
  have hO7 := hnew w7 hU7
  rw [← encE_set _ _ _ hkE] at hO7
  have hR7 : OneT w6 74 (fun i => i = b) := fun i hi => ⟨_, hi ▸ hBo⟩
  have h7 := h6.ownW (E' := E.set k (entN N j)) hU7.chg hR7 (by dsimp only; rw [hv, List.length_set]; exact hO7)
  refine zk_seq ?_
  refine zc_seq ?_
  refine zc_region ?_
  refine zl_pureL rfl ?_
  refine zl_nil ?_
  refine zk_seq ?_
  refine zc_ret ?_
  refine zk_ret1 (.inr rfl) rfl rfl ⟨_, q.vo, vi, rfl, ((WrS.of_no hC3 _ _).trans hW4).trans (hW5.trans ((WrS.of_no hC6 _ _).trans ⟨hU7.chg.mono (fun i _ hi => .inr (.inl (by dsimp only; rw [hv, hi]; rfl))), fun _ h => .inl h⟩)), .inl ⟨rfl, rfl, k, hk1, hkE, by rw [← hen]; exact hkn, by rw [← hen]; exact h7⟩⟩
end
end Go.Proofs.Yteeibieaapiomaa.D
/- SOpen -/
/- A Site: Open. -/
namespace Go.Proofs.Yteeibieaapiomaa.D
open Go Go.Z Go.Proofs
set_option linter.unusedVariables false
section
variable {w w' w1 w2 : World} {s : Nat} {q : SP} {E : List Ent} {I : List Bool} {m : ByteArray → Int} {N : List ND} {f : Bool}
set_option maxRecDepth 100000 in
set_option maxHeartbeats 8000000 in
theorem sOpen_calls (h : IsS w s q E I m N f) (hE : E.length ≤ 1000000) :
    Calls Try.prog 20 [.pointer (some ⟨s, 0, none⟩)].toArray w fun x w' => ∃ v, x = .returned v ∧ Ints w' w.heap.size v (E.map Ent.n) ∧ Chg w w' No := by
  have hb := h.blk
  obtain ⟨A, c, hv, hc⟩ := h.own.rd.form
  rw [hv] at hb
  refine calls_zc (n := 22) (f := 20) (fn := Try.f20) Try.func20 rfl rfl (by simp) ?_
  refine zc_seq ?_
  refine zc_region ?_
  refine zl_pureL rfl ?_
  refine zl_nil ?_
  refine zk_seq ?_
  refine zc_seq ?_
  refine zc_region ?_
  refine zl_pureL rfl ?_
  refine zl_nil ?_
  refine zk_seq ?_
  iterate 2 (refine zc_seq ?_)
  refine zc_region ?_
  iterate 2 (refine zl_pureL rfl ?_)
  refine z_fa want_none (by decide) rfl ?_
  refine z_loadB want_none (by decide) rfl (by assumption) (by rfl) ?_
  refine z_len want_none (by decide) rfl ?_
  refine zl_pureL rfl ?_
  refine zl_nil ?_
  refine zk_seq ?_
  refine zc_block ?_
  refine zc_loopW (ι := Nat × Value) (fun k u => [(3, k.2), (9, .slice A E.length c), (10, .int .i64 E.length), (11, .int .i64 (k.1 : Nat))]) (fun k u => k.1 ≤ E.length ∧ Ints u w.heap.size k.2 ((E.map Ent.n).take k.1) ∧ Chg w u No) (fun k u => E.length - k.1) (0, .slice none 0 0) ⟨Nat.zero_le _, ⟨Own.nil, fun j hj => by cases hj⟩, Chg.refl _ _⟩ ?_ ?_
  · exact ⟨rfl, rfl, rfl, rfl, trivial⟩
  rintro ⟨k, v⟩ u ⟨hk, hI, hC⟩
  dsimp only at hk hI hC ⊢
  have hlk : ((E.map Ent.n).take k).length = k := by rw [List.length_take, List.length_map]; omega
  by_cases hlt : k < E.length
  rotate_left
  · obtain rfl : k = E.length := by omega
    rw [List.take_of_length_le (by simp)] at hI
    refine zc_seq ?_
    refine zc_region ?_
    refine z_cmpB (r := false) want_none (by decide) rfl rfl rfl (iff_of_false Bool.false_ne_true (by omega)) ?_
    refine zl_nil ?_
    refine zk_seq ?_
    refine zc_seq ?_
    refine zc_false rfl ?_
    refine zc_exit ?_
    iterate 2 (refine zk_exit_then ?_)
    refine zk_exit_block ?_
    refine zk_seq ?_
    refine zc_seq ?_
    refine zc_region ?_
    iterate 2 (refine zl_pureL rfl ?_)
    refine zl_nil ?_
    refine zk_seq ?_
    refine zc_ret ?_
    exact zk_ret1 (.inr rfl) rfl rfl ⟨_, rfl, hI, hC⟩
  obtain ⟨b, o, c', hv', g0, g1, g2⟩ := (h.no hC).at_ k hlt
  rw [hv] at hv'
  cases hv'
  obtain ⟨en, hen⟩ : ∃ en, en = E.getD k en0 := ⟨_, rfl⟩
  rw [← hen] at g0 g1 g2
  refine zc_seq ?_
  refine zc_region ?_
  refine z_cmpB (r := true) want_none (by decide) rfl rfl rfl (iff_of_true rfl (by omega)) ?_
  refine zl_nil ?_
  refine zk_seq ?_
  refine zc_seq ?_
  refine zc_true rfl ?_
  refine zc_skip ?_
  refine zk_seq ?_
  refine zc_seq ?_
  refine zc_block ?_
  refine zc_seq ?_
  refine zc_region ?_
  refine z_ia want_none (by decide) rfl rfl (by omega) (by omega) ?_
  refine z_loadA (by rfl) (by first | exact want_none | exact want_L rfl) (by decide) rfl (agg3 g0 g1 g2 (by omega)) ?_
  refine z_alloc (by first | exact want_none | exact want_L rfl) (by decide) (fun u1 b1 hN1 => ?_)
  have hb1 : Blk u1 b1 74 [.int .i64 0, .int .i64 0, .string ⟨#[]⟩] := hN1.blk
  refine z_store (by first | exact want_none | exact want_L rfl) rfl rfl rfl (by assumption) (by first | exact Nat.le_refl _ | simp [Value.cells]) (by simp [Value.cells, Value.oneCell']) (fun u2 hU2 => ?_)
  have hb2 : Blk u2 b1 74 [.int .i64 en.n, .int .i64 en.sp, .string en.nm] := hU2.blk
  have hC2 : Chg u u2 No := hN1.chg.upd hU2 (hN1.ge (Chg.refl _ No))
  have hI2 := hI.no hC2
  refine zl_nil ?_
  refine zk_seq ?_
  refine zc_region ?_
  refine zl_pureL rfl ?_
  refine z_fa want_none (by decide) rfl ?_
  refine z_loadB want_none (by decide) rfl (by assumption) (by rfl) ?_
  refine z_bs1 (by first | exact want_none | exact want_L rfl) (by decide) rfl (by rfl) (by rfl) (by decide) (by decide) (fun u3 b3 hN3 => ?_)
  have hr3 : RdS u3 3 1 (.slice (some ⟨b3, 0, none⟩) 1 1) 1 (intC [en.n]) := RdS.new hN3 rfl (intC_one _)
  have hI3 := hI2.no hN3.chg
  refine z_appendO (by rfl) (by decide) (by first | exact want_none | exact want_L rfl) (by decide) rfl rfl hI3.1 hr3 (by omega) (by omega) (fun v4 u4 hO4 hX4 hr4 => ?_)
  have hC3 : Chg w u3 No := (hC.no hC2).no hN3.chg
  have hC4 : Chg w u4 No := Chg.newS hC3 hX4 hI3.2
  have et : (E.map Ent.n).take (k + 1) = (E.map Ent.n).take k ++ [en.n] := by
    rw [List.take_add_one, List.getElem?_map, List.getElem?_eq_getElem hlt, hen, List.getD_eq_getElem?_getD, List.getElem?_eq_getElem hlt]; rfl
  have hI4 : Ints u4 w.heap.size v4 ((E.map Ent.n).take (k + 1)) := by
    refine ⟨?_, hI3.2.app hC3.size hr4⟩
    rw [et, List.length_append, intC_app]; exact hO4
  refine zl_pureL rfl ?_
  refine zl_nil ?_
  refine zk_norm_block ?_
  refine zk_seq ?_
  refine zc_region ?_
  refine z_add want_none (by decide) rfl rfl (by omega) (by omega) ?_
  refine zl_pureL rfl ?_
  refine zl_nil ?_
  refine zk_loopW (k + 1, v4) ⟨by dsimp only; omega, hI4, hC4⟩ (by dsimp only; omega) ⟨rfl, rfl, rfl, rfl, trivial⟩
end
end Go.Proofs.Yteeibieaapiomaa.D
/- SRow -/
/- What stays true of a Site when elements are put, dropped, swapped. -/
namespace Go.Proofs.Yteeibieaapiomaa.D
open Go Go.Z Go.Proofs
set_option linter.unusedVariables false
section
variable {w0 w w' : World} {s : Nat} {q q' : SP} {E : List Ent} {I : List Bool} {m : ByteArray → Int} {N N' : List ND} {f : Bool} {T T' : List Ent}
theorem Inv.cons (h : Inv E I m N) : ∃ T, E = en0 :: T := by
  cases E with
  | nil => have := h.pos; simp at this
  | cons a r => have := h.root; exact ⟨r, by rw [List.getD_cons_zero] at this; rw [this]⟩
theorem Inv.perm (h : Inv (en0 :: T) I m N) (hp : T.Perm T') : Inv (en0 :: T') I m N := by
  have hp' : ((en0 :: T).map Ent.n).Perm ((en0 :: T').map Ent.n) := (hp.cons en0).map _
  refine ⟨by simp, rfl, hp'.nodup_iff.1 h.nd, fun e he => h.el e ((hp.cons en0).mem_iff.2 he), fun n => (h.io n).trans hp'.mem_iff, h.il, fun k => ?_⟩
  rw [h.cn]
  unfold cntL
  rw [List.tail_cons, List.tail_cons, hp.countP_eq]
theorem insE_cons (T : List Ent) (i : Nat) (e : Ent) : insE (en0 :: T) (i + 1) e = en0 :: insE T i e := rfl
theorem delE_cons (T : List Ent) (i : Nat) : delE (en0 :: T) (i + 1) = en0 :: delE T i := rfl
theorem insE_perm (T : List Ent) (i : Nat) (e : Ent) : (T ++ [e]).Perm (insE T i e) := by
  unfold insE
  refine List.perm_append_comm.trans ?_
  rw [List.append_assoc]
  refine List.Perm.trans ?_ (List.perm_append_comm_assoc [e] (T.take i) (T.drop i))
  rw [List.take_append_drop]
theorem delE_perm (T : List Ent) (k : Nat) (h : k < T.length) : T.Perm (delE T k ++ [T.getD k en0]) := by
  have : T = T.take k ++ (T.getD k en0 :: T.drop (k + 1)) := by
    rw [List.getD_eq_getElem?_getD, List.getElem?_eq_getElem h]
    simp
  unfold delE
  refine (List.Perm.of_eq this).trans ?_
  rw [List.append_assoc]
  exact List.Perm.append_left _ (List.perm_append_comm (l₁ := [T.getD k en0]) (l₂ := T.drop (k + 1)))
theorem Inv.put (h : Inv E I m N) {i n : Nat} (hi : 1 ≤ i) (hn : n < N.length) (hf : freshB N I n = true) : Inv (insE E i (entN N n)) (comI I n) (cntM m (entN N n) 1) N := by
  obtain ⟨T, rfl⟩ := h.cons
  obtain ⟨j, rfl⟩ : ∃ j, i = j + 1 := ⟨i - 1, by omega⟩
  have := h.push hn hf
  rw [insE_cons]
  exact Inv.perm this (insE_perm T j _)
theorem Inv.drop (h : Inv E I m N) {k : Nat} (hk : 1 ≤ k) (hkE : k < E.length) : Inv (delE E k) (I.set (E.getD k en0).n false) (cntM m (E.getD k en0) (-1)) N := by
  obtain ⟨T, rfl⟩ := h.cons
  obtain ⟨j, rfl⟩ : ∃ j, k = j + 1 := ⟨k - 1, by omega⟩
  have hj : j < T.length := by simpa using hkE
  have h1 := h.perm (delE_perm T j hj)
  have hl : lastE (en0 :: (delE T j ++ [T.getD j en0])) = T.getD j en0 := by
    unfold lastE
    rw [List.getD_eq_getElem?_getD, List.length_cons, List.length_append, List.length_singleton]
    simp
  have h2 := (h1.pop (by simp)).1
  rw [hl] at h2
  rw [delE_cons, List.getD_cons_succ]
  have hd : (en0 :: (delE T j ++ [T.getD j en0])).dropLast = en0 :: delE T j := by
    rw [← List.cons_append, List.dropLast_concat]
  rw [hd] at h2
  exact h2
theorem set_perm (T : List Ent) (k : Nat) (e : Ent) (h : k < T.length) : (delE T k ++ [e]).Perm (T.set k e) := by
  rw [List.set_eq_take_append_cons_drop, if_pos h]
  unfold delE
  rw [List.append_assoc]
  exact List.Perm.append_left _ (List.perm_append_comm (l₁ := T.drop (k + 1)) (l₂ := [e]))
theorem opn_set {I : List Bool} {j : Nat} {n : Int} (h : opn (I.set j false) n) : opn I n := by
  obtain ⟨h1, h2, h3⟩ := h
  rw [List.length_set] at h2
  refine ⟨h1, h2, ?_⟩
  rcases Nat.lt_or_ge j I.length with hj | hj
  · rw [getD_set _ _ _ _ _ hj] at h3
    split at h3
    · cases h3
    · exact h3
  · rw [List.set_eq_of_length_le hj] at h3; exact h3
theorem Inv.swap (h : Inv E I m N) {k n : Nat} (hk : 1 ≤ k) (hkE : k < E.length) (hn : n < N.length) (hf : freshB N I n = true) : Inv (E.set k (entN N n)) (comI (I.set (E.getD k en0).n false) n) (cntM (cntM m (E.getD k en0) (-1)) (entN N n) 1) N := by
  have h1 := h.drop hk hkE
  have hf1 : freshB N (I.set (E.getD k en0).n false) n = true := by
    unfold freshB at hf ⊢
    rw [decide_eq_true_eq] at hf ⊢
    exact ⟨hf.1, fun ho => hf.2 (opn_set ho)⟩
  have h2 := h1.push hn hf1
  obtain ⟨T, rfl⟩ := h.cons
  obtain ⟨j, rfl⟩ : ∃ j, k = j + 1 := ⟨k - 1, by omega⟩
  rw [delE_cons] at h2
  rw [List.set_cons_succ]
  exact Inv.perm h2 (set_perm T j _ (by simpa using hkE))
theorem Inv.small1 (h : Inv E I m N) (hN : N.length ≤ 900000) (e : Ent) : SmallM (cntM m e (-1)) := fun k => by
  have hs := h.small hN
  have h0 : ∀ k, 0 ≤ m k := fun k => by rw [h.cn]; unfold cntL; omega
  unfold cntM
  split
  · unfold updM
    split
    · have := hs e.nm; have := h0 e.nm; omega
    · have := hs k; omega
  · have := hs k; omega
theorem Inv.lens (h : Inv E I m N) (k : Nat) (hk : k < E.length) : (E.getD k en0).n < I.length := by
  have hm : (E.getD k en0).n ∈ E.map Ent.n := List.mem_map.2 ⟨_, getD_mem hk, rfl⟩
  have := (h.io _).2 hm
  rcases Nat.lt_or_ge (E.getD k en0).n I.length with h1 | h1
  · exact h1
  · rw [List.getD_eq_getElem?_getD (l := I), List.getElem?_eq_none h1] at this; cases this
theorem freshB_is {n : Int} (hf : freshB N I n = true) : ∃ k : Nat, n = k ∧ k < N.length := by
  unfold freshB at hf
  rw [decide_eq_true_eq] at hf
  have h1 := hf.1
  unfold nodeOf at h1
  split at h1
  · rename_i hin; exact ⟨n.toNat, by have := hin.1; omega, by have := hin.2; have := hin.1; omega⟩
  · simp [n0] at h1
theorem SF.putG (h : SF w0 w s q E I m N f) (hB : BigT N) (hN : N.length ≤ 900000) (i n : Int) :
    Calls Try.prog 16 [.pointer (some ⟨s, 0, none⟩), .int .i64 i, .int .i64 n].toArray w fun x w' => ∃ p q' E' I' m', x = .returned (.bool p) ∧ SP.Eq q q' ∧ WrS w w' s q q' ∧ SF w0 w' s q' E' I' m' N f := by
  have hel := h.inv.elen
  have hil := h.inv.il
  refine (sPut_calls h.is hB i n (by omega) h.inv.pos (by omega) (by omega) (h.inv.small hN)).mono ?_
  rintro x w' ⟨p, vo, vi, rfl, hW, ⟨rfl, hf, hi, hI⟩ | ⟨rfl, hI⟩⟩
  · obtain ⟨k, rfl, hk⟩ := freshB_is hf
    exact ⟨_, { q with vo := vo, vi := vi }, _, _, _, rfl, ⟨rfl, rfl, rfl⟩, hW, h.wr hI hW (h.inv.put (by omega) hk hf) h.wf⟩
  · exact ⟨_, { q with vo := vo, vi := vi }, _, _, _, rfl, ⟨rfl, rfl, rfl⟩, hW, h.wr hI hW h.inv h.wf⟩
theorem SF.dropG (h : SF w0 w s q E I m N f) (hN : N.length ≤ 900000) (n : Int) :
    Calls Try.prog 18 [.pointer (some ⟨s, 0, none⟩), .int .i64 n].toArray w fun x w' => ∃ p q' E' I' m', x = .returned (.bool p) ∧ SP.Eq q q' ∧ WrS w w' s q q' ∧ SF w0 w' s q' E' I' m' N f := by
  have hel := h.inv.elen
  refine (sDrop_calls h.is h.inv.pos (by omega) h.inv.lens (h.inv.small hN) n).mono ?_
  rintro x w' ⟨p, vo, rfl, hW, ⟨rfl, k, hk1, hkE, hkn, hI⟩ | ⟨rfl, hI⟩⟩
  · exact ⟨_, { q with vo := vo }, _, _, _, rfl, ⟨rfl, rfl, rfl⟩, hW, h.wr hI hW (h.inv.drop hk1 hkE) h.wf⟩
  · exact ⟨_, { q with vo := vo }, _, _, _, rfl, ⟨rfl, rfl, rfl⟩, hW, h.wr hI hW h.inv h.wf⟩
theorem SF.swapG (h : SF w0 w s q E I m N f) (hB : BigT N) (hN : N.length ≤ 900000) (n n2 : Int) :
    Calls Try.prog 17 [.pointer (some ⟨s, 0, none⟩), .int .i64 n, .int .i64 n2].toArray w fun x w' => ∃ p q' E' I' m', x = .returned (.bool p) ∧ SP.Eq q q' ∧ WrS w w' s q q' ∧ SF w0 w' s q' E' I' m' N f := by
  have hel := h.inv.elen
  have hil := h.inv.il
  refine (sSwap_calls h.is hB (by omega) h.inv.pos (by omega) h.inv.lens (by omega) (h.inv.small hN) (fun e _ => h.inv.small1 hN e) n n2).mono ?_
  rintro x w' ⟨p, vo, vi, rfl, hW, ⟨rfl, hf, k, hk1, hkE, hkn, hI⟩ | ⟨rfl, hI⟩⟩
  · obtain ⟨j, rfl, hj⟩ := freshB_is hf
    exact ⟨_, { q with vo := vo, vi := vi }, _, _, _, rfl, ⟨rfl, rfl, rfl⟩, hW, h.wr hI hW (h.inv.swap hk1 hkE hj hf) h.wf⟩
  · exact ⟨_, { q with vo := vo, vi := vi }, _, _, _, rfl, ⟨rfl, rfl, rfl⟩, hW, h.wr hI hW h.inv h.wf⟩
theorem SF.popG (h : SF w0 w s q E I m N f) (hN : N.length ≤ 900000) :
    Calls Try.prog 15 [.pointer (some ⟨s, 0, none⟩)].toArray w fun x w' => ∃ p q' E' I' m', x = .returned (.bool p) ∧ SP.Eq q q' ∧ WrS w w' s q q' ∧ SF w0 w' s q' E' I' m' N f := by
  refine (h.pop hN).mono ?_
  rintro x w' ⟨rfl, q', hq, hW, hI⟩
  split at hI
  · exact ⟨_, q', _, _, _, rfl, hq, hW, hI⟩
  · exact ⟨_, q', _, _, _, rfl, hq, hW, hI⟩
set_option maxHeartbeats 8000000 in
theorem SF.pushG (h : SF w0 w s q E I m N f) (hB : BigT N) (hN : N.length ≤ 900000) (n : Int) :
    Calls Try.prog 19 [.pointer (some ⟨s, 0, none⟩), .int .i64 n].toArray w fun x w' => ∃ p q' E' I' m', x = .returned (.bool p) ∧ SP.Eq q q' ∧ WrS w w' s q q' ∧ SF w0 w' s q' E' I' m' N f := by
  have hb := h.is.blk
  obtain ⟨A, c, hv, hc⟩ := h.is.own.rd.form
  rw [hv] at hb
  refine calls_zc (n := 13) (f := 19) (fn := Try.f19) Try.func19 rfl rfl (by simp) ?_
  refine zc_seq ?_
  refine zc_region ?_
  refine zl_pureL rfl ?_
  refine zl_nil ?_
  refine zk_seq ?_
  refine zc_seq ?_
  refine zc_region ?_
  iterate 3 (refine zl_pureL rfl ?_)
  refine z_fa want_none (by decide) rfl ?_
  refine z_loadB want_none (by decide) rfl (by assumption) (by rfl) ?_
  refine z_len want_none (by decide) rfl ?_
  refine zl_pureL rfl ?_
  refine zl_call (by first | exact want_none | exact want_L rfl) rfl (by decide) rfl (h.putG hB hN _ _) ?_
  rintro _ w1 ⟨p, q', E', I', m', rfl, h1⟩
  refine ⟨_, rfl, ?_⟩
  refine zl_pureL rfl ?_
  refine zl_nil ?_
  refine zk_seq ?_
  refine zc_ret ?_
  exact zk_ret1 (.inr rfl) rfl rfl ⟨p, q', E', I', m', rfl, h1⟩
theorem SF.docElem (h : SF w0 w s q E I m N f) (hN : N.length ≤ 90000) (sp : Int) (nm : ByteArray) {va : Value} {l : List At} (ha : AttrS w va l) (hal : l.length ≤ 100000) :
    Calls Try.prog 11 [.pointer (some ⟨q.pd, 0, none⟩), .int .i64 sp, .string nm, va].toArray w fun x w' => x = .returned (.int .i64 N.length) ∧ ∃ q', SP.Eq q q' ∧ WrS w w' s q q' ∧ SF w0 w' s q' E I m (N ++ [⟨1, sp, nm, l, [], -1, []⟩]) f := by
  refine (elem'_calls h.is.doc (by omega) sp nm ha hal).mono ?_
  rintro x w' ⟨rfl, vl', Q', hI, hW⟩
  exact ⟨rfl, { q with vl := vl', Q := Q' }, ⟨rfl, rfl, rfl⟩, WrS.doc hW, h.wr (h.is.docW hI hW) (WrS.doc hW) (h.inv.nodes (sameK.snoc _ _)) (h.wf.add rfl rfl)⟩
theorem SF.docNote (h : SF w0 w s q E I m N f) (hN : N.length ≤ 90000) (t : List UInt8) (ht : t.length ≤ 100000) :
    Calls Try.prog 12 [.pointer (some ⟨q.pd, 0, none⟩), .string (bs t)].toArray w fun x w' => x = .returned (.int .i64 N.length) ∧ ∃ q', SP.Eq q q' ∧ WrS w w' s q q' ∧ SF w0 w' s q' E I m (N ++ [⟨3, 0, ⟨#[]⟩, [], t, -1, []⟩]) f := by
  refine (note_calls h.is.doc (by omega) t ht).mono ?_
  rintro x w' ⟨rfl, vl', Q', hI, hW⟩
  exact ⟨rfl, { q with vl := vl', Q := Q' }, ⟨rfl, rfl, rfl⟩, WrS.doc hW, h.wr (h.is.docW hI hW) (WrS.doc hW) (h.inv.nodes (sameK.snoc _ _)) (h.wf.add rfl rfl)⟩
end
end Go.Proofs.Yteeibieaapiomaa.D
/- MObj -/
/- What a list of marks in memory says: plain data, and how it reads. -/
namespace Go.Proofs.Yteeibieaapiomaa.M
open Go Go.Z Go.Proofs
set_option linter.unusedVariables false
abbrev At := ByteArray × ByteArray
structure Mark where
  node : Int
  name : ByteArray
  attrs : List At
structure MV where
  node : Int
  name : ByteArray
  attrs : Value
def MV.z : MV := ⟨0, ByteArray.empty, .slice none 0 0⟩
def Mark.z : Mark := ⟨0, ByteArray.empty, []⟩
def at0 : At := (ByteArray.empty, ByteArray.empty)
def encM : List MV → List Value
  | [] => []
  | m :: r => .int .i64 m.node :: .string m.name :: m.attrs :: encM r
def encA : List At → List Value
  | [] => []
  | m :: r => .string m.1 :: .string m.2 :: encA r
theorem encM_len : ∀ l : List MV, (encM l).length = l.length * 3
  | [] => rfl
  | m :: r => by simp [encM, encM_len r]; omega
theorem encA_len : ∀ l : List At, (encA l).length = l.length * 2
  | [] => rfl
  | m :: r => by simp [encA, encA_len r]; omega
theorem encM_app : ∀ l r : List MV, encM (l ++ r) = encM l ++ encM r
  | [], r => rfl
  | m :: l, r => by simp [encM, encM_app l r]
theorem encM_take : ∀ (l : List MV) (k : Nat), encM (l.take k) = (encM l).take (k * 3)
  | [], k => by simp [encM]
  | m :: l, 0 => by simp [encM]
  | m :: l, k + 1 => by simp [encM, encM_take l k, show (k + 1) * 3 = k * 3 + 1 + 1 + 1 by omega]
theorem encM_drop : ∀ (l : List MV) (k : Nat), encM (l.drop k) = (encM l).drop (k * 3)
  | [], k => by simp [encM]
  | m :: l, 0 => by simp [encM]
  | m :: l, k + 1 => by simp [encM, encM_drop l k, show (k + 1) * 3 = k * 3 + 1 + 1 + 1 by omega]
theorem encM_get : ∀ (l : List MV) (i : Nat), i < l.length → (encM l)[i * 3]? = some (.int .i64 (l.getD i MV.z).node) ∧ (encM l)[i * 3 + 1]? = some (.string (l.getD i MV.z).name) ∧ (encM l)[i * 3 + 2]? = some (l.getD i MV.z).attrs
  | [], i, h => by simp at h
  | m :: l, 0, h => by simp [encM]
  | m :: l, i + 1, h => by
    have := encM_get l i (by simpa using h)
    simpa [encM, show (i + 1) * 3 = i * 3 + 1 + 1 + 1 by omega, show i * 3 + 1 + 1 + 1 + 1 = (i * 3 + 1) + 1 + 1 + 1 by omega, show i * 3 + 1 + 1 + 1 + 2 = (i * 3 + 2) + 1 + 1 + 1 by omega] using this
theorem encA_get : ∀ (l : List At) (i : Nat), i < l.length → (encA l)[i * 2]? = some (.string (l.getD i at0).1) ∧ (encA l)[i * 2 + 1]? = some (.string (l.getD i at0).2)
  | [], i, h => by simp at h
  | m :: l, 0, h => by simp [encA]
  | m :: l, i + 1, h => by
    have := encA_get l i (by simpa using h)
    simpa [encA, show (i + 1) * 2 = i * 2 + 1 + 1 by omega, show i * 2 + 1 + 1 + 1 = (i * 2 + 1) + 1 + 1 by omega] using this
theorem encA_one : ∀ (l : List At), ∀ u ∈ encA l, u.oneCell' = true
  | [], u, h => by simp [encA] at h
  | m :: r, u, h => by
    simp only [encA, List.mem_cons] at h
    rcases h with rfl | rfl | h
    · rfl
    · rfl
    · exact encA_one r u h
/-- a slice of attributes -/
def AttrS (w : World) (v : Value) (l : List At) : Prop := RdS w 89 2 v l.length (encA l)
theorem AttrS.form {w : World} {v : Value} {l : List At} (h : AttrS w v l) : ∃ A c, v = .slice A l.length c ∧ l.length ≤ c := RdS.form h
theorem AttrS.no {w w' : World} {v : Value} {l : List At} (h : AttrS w v l) (hc : Chg w w' No) : AttrS w' v l := RdS.no h hc
theorem AttrS.nil (w : World) : AttrS w (.slice none 0 0) [] := RdS.nil
/-- one mark -/
def MR (w : World) (m : MV) (x : Mark) : Prop := m.node = x.node ∧ m.name = x.name ∧ AttrS w m.attrs x.attrs
/-- the list of marks behind a pointer to block g (of type st), its row the slice v -/
def IsM (w : World) (st g : Nat) (v : Value) (L : List Mark) : Prop := Blk w g st [v] ∧ ∃ ms, Own w 45 3 v ms.length (encM ms) ∧ All2 (MR w) ms L
/-- what its calls may write -/
def foot (g : Nat) (v : Value) : Nat → Prop := fun k => k = g ∨ v.ownBlock = some k
section
variable {w w' : World} {st g : Nat} {v : Value} {L : List Mark} {S : Nat → Prop}
theorem IsM.chg (h : IsM w st g v L) (hc : Chg w w' S) (hg : ¬ S g) (hv : ∀ k, v.ownBlock = some k → ¬ S k) (h47 : ∀ b cells, Blk w b 89 cells → ¬ S b) : IsM w' st g v L := by
  obtain ⟨h1, ms, h2, h3⟩ := h
  exact ⟨h1.chg hc hg, ms, h2.chg hc hv, h3.imp (fun a b ⟨h4, h5, h6⟩ => ⟨h4, h5, RdS.chg h6 hc h47⟩)⟩
theorem IsM.no (h : IsM w st g v L) (hc : Chg w w' No) : IsM w' st g v L := h.chg hc id (fun _ _ => id) (fun _ _ _ => id)
theorem IsM.form (h : IsM w st g v L) : ∃ A c, v = .slice A L.length c ∧ L.length ≤ c := by
  obtain ⟨h1, ms, h2, h3⟩ := h
  have := h2.rd.form
  rwa [h3.length] at this
theorem IsM.foot47 (h : IsM w st g v L) (hst : st ≠ 89) : ∀ b cells, Blk w b 89 cells → ¬ foot g v b := by
  intro b cells hb hf
  obtain ⟨h1, ms, h2, h3⟩ := h
  rcases hf with rfl | hf
  · exact hst (h1.inj hb).1
  · exact h2.ne hf hb (by decide) rfl
theorem IsM.ne (h : IsM w st g v L) (hst : st ≠ 45) : v.ownBlock ≠ some g := fun he => by
  obtain ⟨h1, ms, h2, h3⟩ := h
  exact h2.ne he h1 (Ne.symm hst) rfl
theorem IsM.lt (h : IsM w st g v L) : ∀ k, foot g v k → k < w.heap.size := by
  obtain ⟨h1, ms, h2, h3⟩ := h
  rintro k (rfl | hk)
  · exact h1.lt
  · exact h2.lt hk
/-- an element's cells -/
theorem IsM.at_ (h : IsM w st g v L) (i : Nat) (hi : i < L.length) : ∃ b c A, v = .slice (some ⟨b, 0, none⟩) L.length c ∧ w.cell? ⟨b, i * 3, none⟩ = some (.int .i64 (L.getD i Mark.z).node) ∧ w.cell? ⟨b, i * 3 + 1, none⟩ = some (.string (L.getD i Mark.z).name) ∧
    w.cell? ⟨b, i * 3 + 2, none⟩ = some A ∧ AttrS w A (L.getD i Mark.z).attrs := by
  obtain ⟨h1, ms, h2, h3⟩ := h
  have hlen := h3.length
  obtain ⟨h4, h5⟩ := h2.cases
  rcases h5 with ⟨rfl, h6, h7⟩ | ⟨b, cap, junk, rfl, h6, h7, h8, h9⟩
  · omega
  · obtain ⟨g1, g2, g3⟩ := h3.get MV.z Mark.z i hi
    obtain ⟨e1, e2, e3⟩ := encM_get ms i (by omega)
    have hlt : i * 3 + 2 < (encM ms).length := by rw [encM_len]; omega
    refine ⟨b, cap, (ms.getD i MV.z).attrs, by rw [hlen], ?_, ?_, ?_, g3⟩
    · rw [h8.cell, List.getElem?_append_left (by omega), e1, g1]
    · rw [h8.cell, List.getElem?_append_left (by omega), e2, g2]
    · rw [h8.cell, List.getElem?_append_left (by omega), e3]
end
/-- the place behind the last wall, seen from n down -/
def beginN (L : List Mark) : Nat → Nat
  | 0 => 0
  | i + 1 => if 0 ≤ (L.getD i Mark.z).node then beginN L i else i + 1
theorem beginN_le (L : List Mark) : ∀ n, beginN L n ≤ n
  | 0 => Nat.le_refl 0
  | i + 1 => by unfold beginN; have := beginN_le L i; split <;> omega
end Go.Proofs.Yteeibieaapiomaa.M
/- MRead2 -/
/- Attributes held against each other; keys; a mark with a list of its own. -/
namespace Go.Proofs.Yteeibieaapiomaa.M
open Go Go.Z Go.Proofs
set_option linter.unusedVariables false
theorem any_drop {α : Type} (d : α) (p : α → Bool) (l : List α) (k : Nat) (h : k < l.length) : (l.drop k).any p = (p (l.getD k d) || (l.drop (k + 1)).any p) := by
  rw [List.drop_eq_getElem_cons h, List.any_cons, List.getD_eq_getElem?_getD, List.getElem?_eq_getElem h]; rfl
theorem all_drop {α : Type} (d : α) (p : α → Bool) (l : List α) (k : Nat) (h : k < l.length) : (l.drop k).all p = (p (l.getD k d) && (l.drop (k + 1)).all p) := by
  rw [List.drop_eq_getElem_cons h, List.all_cons, List.getD_eq_getElem?_getD, List.getElem?_eq_getElem h]; rfl
theorem AttrS.at_ {w : World} {v : Value} {l : List At} (h : AttrS w v l) (i : Nat) (hi : i < l.length) : ∃ b o c, v = .slice (some ⟨b, o, none⟩) l.length c ∧ w.cell? ⟨b, o + i * 2, none⟩ = some (.string (l.getD i at0).1) ∧ w.cell? ⟨b, o + i * 2 + 1, none⟩ = some (.string (l.getD i at0).2) := by
  obtain ⟨b, o, c, hv, _, hc⟩ := RdS.some h (by omega)
  obtain ⟨e1, e2⟩ := encA_get l i hi
  exact ⟨b, o, c, hv, hc _ _ e1, by have := hc _ _ e2; rwa [← Nat.add_assoc] at this⟩
def atEq (x y : At) : Bool := decide (y.1 = x.1) && decide (y.2 = x.2)
theorem atEq_t {x y : At} (h1 : y.1 = x.1) (h2 : y.2 = x.2) : atEq x y = true := by simp [atEq, h1, h2]
theorem atEq_f {x y : At} (h : y.1 ≠ x.1 ∨ y.2 ≠ x.2) : atEq x y = false := by
  rcases h with h | h <;> simp [atEq, h]
theorem among_calls {w : World} {v : Value} {l : List At} (x : At) (h : AttrS w v l) (hl : l.length ≤ 100000) :
    Calls Try.prog 91 [v, .agg #[.string x.1, .string x.2]].toArray w fun e w' => e = .returned (.bool (l.any (atEq x))) ∧ Chg w w' No := by
  obtain ⟨A, c, hv, hc⟩ := h.form
  subst hv
  refine calls_zc (n := 26) (f := 91) (fn := Try.f91) Try.func91 rfl rfl (by simp) ?_
  refine zc_seq ?_
  refine zc_region ?_
  refine z_box (by first | exact want_none | exact want_L rfl) (by decide) rfl (fun w1 b1 hN => ?_)
  have hNb : Blk w1 b1 89 [.string x.1, .string x.2] := hN.blk
  refine zl_pureL rfl ?_
  refine zl_nil ?_
  refine zk_seq ?_
  iterate 2 (refine zc_seq ?_)
  refine zc_region ?_
  refine zl_pureL rfl ?_
  refine z_len want_none (by decide) rfl ?_
  refine zl_pureL rfl ?_
  refine zl_nil ?_
  refine zk_seq ?_
  refine zc_block ?_
  refine zc_loopW (ι := Nat) (fun k u => [(3, .pointer (some ⟨b1, 0, none⟩)), (7, .slice A l.length c), (8, .int .i64 l.length), (9, .int .i64 k)])
    (fun k u => k ≤ l.length ∧ Chg w1 u No ∧ l.any (atEq x) = (l.drop k).any (atEq x)) (fun k u => l.length - k) 0 ⟨Nat.zero_le _, Chg.refl _ _, rfl⟩ ?_ ?_
  · exact ⟨rfl, rfl, rfl, rfl, trivial⟩
  rintro k w2 ⟨hk, hC, hb⟩
  have hCw : Chg w w2 No := hN.chg.trans hC (fun _ _ h => h)
  have hNb2 := hNb.no hC
  by_cases hlt : k < l.length
  · obtain ⟨b, o, c', hv, h0, h1⟩ := (h.no hCw).at_ k hlt
    cases hv
    refine zc_seq ?_
    refine zc_region ?_
    refine z_cmpB (r := true) want_none (by decide) rfl rfl rfl (iff_of_true rfl (by omega)) ?_
    refine zl_nil ?_
    refine zk_seq ?_
    refine zc_seq ?_
    refine zc_true rfl ?_
    refine zc_skip ?_
    refine zk_seq ?_
    refine zc_seq ?_
    refine zc_block ?_
    refine zc_seq ?_
    refine zc_region ?_
    refine z_ia want_none (by decide) rfl rfl (by omega) (by omega) ?_
    refine z_loadA (by rfl) (by first | exact want_none | exact want_L rfl) (by decide) rfl (agg2 h0 h1 (by omega)) ?_
    refine z_alloc (by first | exact want_none | exact want_L rfl) (by decide) (fun w3 b3 hN3 => ?_)
    have hb3 := hN3.blk
    skip
    refine z_store (by first | exact want_none | exact want_L rfl) rfl rfl rfl (by assumption) (by first | exact Nat.le_refl _ | simp [Value.cells]) (by simp [Value.cells, Value.oneCell']) (fun w4 hU => ?_)
    have hC4 := (hCw.new hN3).upd hU (hN3.ge hCw)
    have hC14 := (hC.new hN3).upd hU (hN3.ge hC)
    have hb4 : Blk w4 b3 89 [.string (l.getD k at0).1, .string (l.getD k at0).2] := hU.blk
    have hNb4 := hNb.no hC14
    refine zl_nil ?_
    refine zk_seq ?_
    refine zc_seq ?_
    refine zc_region ?_
    refine z_fa want_none (by decide) rfl ?_
    refine z_loadB want_none (by decide) rfl (by assumption) (by rfl) ?_
    refine z_fa want_none (by decide) rfl ?_
    refine z_loadB want_none (by decide) rfl (by assumption) (by rfl) ?_
    refine z_eqS (by first | exact want_none | exact want_L rfl) (by decide) rfl rfl (fun hc => ?_) (fun hc => ?_)
    · refine zl_pureL rfl ?_
      refine z_fa (want_L rfl) (by decide) rfl ?_
      refine z_loadB (want_L rfl) (by decide) rfl (by assumption) (by rfl) ?_
      refine z_fa (want_L rfl) (by decide) rfl ?_
      refine z_loadB (want_L rfl) (by decide) rfl (by assumption) (by rfl) ?_
      refine z_eqS (by first | exact want_none | exact want_L rfl) (by decide) rfl rfl (fun hc => ?_) (fun hc => ?_)
      · refine zl_pureL rfl ?_
        refine zl_nil ?_
        refine zk_seq ?_
        refine zc_true rfl ?_
        refine zc_seq ?_
        refine zc_region ?_
        refine zl_pureL rfl ?_
        refine zl_nil ?_
        refine zk_seq ?_
        refine zc_ret ?_
        refine zk_ret_block ?_
        iterate 2 (refine zk_ret_then ?_)
        refine zk_ret_block ?_
        refine zk_ret_then ?_
        refine zk_ret1 (.inr rfl) rfl rfl ⟨?_, hC4⟩
        rw [hb, any_drop at0 _ _ _ hlt, atEq_t (by assumption) (by assumption)]; rfl
      · refine zl_pureL rfl ?_
        refine zl_nil ?_
        refine zk_seq ?_
        refine zc_false rfl ?_
        refine zc_skip ?_
        refine zk_norm_block ?_
        refine zk_seq ?_
        refine zc_region ?_
        refine z_add want_none (by decide) rfl rfl (by omega) (by omega) ?_
        refine zl_pureL rfl ?_
        refine zl_nil ?_
        refine zk_loopW (k + 1) ⟨by omega, hC14, ?_⟩ (by omega) ⟨rfl, rfl, rfl, get_int rfl (by omega), trivial⟩
        rw [hb, any_drop at0 _ _ _ hlt, atEq_f (.inr (by assumption))]; rfl
    · refine zl_pureL rfl ?_
      iterate 5 (refine zl_skip rfl ?_)
      refine zl_pureL rfl ?_
      refine zl_nil ?_
      refine zk_seq ?_
      refine zc_false rfl ?_
      refine zc_skip ?_
      refine zk_norm_block ?_
      refine zk_seq ?_
      refine zc_region ?_
      refine z_add want_none (by decide) rfl rfl (by omega) (by omega) ?_
      refine zl_pureL rfl ?_
      refine zl_nil ?_
      refine zk_loopW (k + 1) ⟨by omega, hC14, ?_⟩ (by omega) ⟨rfl, rfl, rfl, get_int rfl (by omega), trivial⟩
      rw [hb, any_drop at0 _ _ _ hlt, atEq_f (.inl (by assumption))]; rfl
  · obtain rfl : k = l.length := by omega
    refine zc_seq ?_
    refine zc_region ?_
    refine z_cmpB (r := false) want_none (by decide) rfl rfl rfl (iff_of_false Bool.false_ne_true (by omega)) ?_
    refine zl_nil ?_
    refine zk_seq ?_
    refine zc_seq ?_
    refine zc_false rfl ?_
    refine zc_exit ?_
    iterate 2 (refine zk_exit_then ?_)
    refine zk_exit_block ?_
    refine zk_seq ?_
    refine zc_seq ?_
    refine zc_region ?_
    refine zl_pureL rfl ?_
    refine zl_nil ?_
    refine zk_seq ?_
    refine zc_ret ?_
    refine zk_ret1 (.inr rfl) rfl rfl ⟨?_, hCw⟩
    rw [hb, List.drop_length]; rfl
def tagSame (a b : List At) : Bool := decide (a.length = b.length) && a.all (fun y => b.any (atEq y))
theorem tagSame_calls {w : World} {v1 v2 : Value} {l1 l2 : List At} (h1 : AttrS w v1 l1) (h2 : AttrS w v2 l2) (hl1 : l1.length ≤ 100000) (hl2 : l2.length ≤ 100000) :
    Calls Try.prog 59 [v1, v2].toArray w fun e w' => e = .returned (.bool (tagSame l1 l2)) ∧ Chg w w' No := by
  obtain ⟨A1, c1, hv1, hc1⟩ := h1.form
  obtain ⟨A2, c2, hv2, hc2⟩ := h2.form
  subst hv1; subst hv2
  refine calls_zc (n := 23) (f := 59) (fn := Try.f59) Try.func59 rfl rfl (by simp) ?_
  refine zc_seq ?_
  refine zc_region ?_
  refine zl_pureL rfl ?_
  refine zl_nil ?_
  refine zk_seq ?_
  iterate 2 (refine zc_seq ?_)
  refine zc_region ?_
  refine zl_pureL rfl ?_
  refine z_len want_none (by decide) rfl ?_
  refine zl_pureL rfl ?_
  refine z_len want_none (by decide) rfl ?_
  refine z_cmp (by first | exact want_none | exact want_L rfl) (by decide) rfl rfl rfl (fun hc => ?_) (fun hc => ?_)
  · refine zl_nil ?_
    refine zk_seq ?_
    refine zc_true rfl ?_
    refine zc_seq ?_
    refine zc_region ?_
    refine zl_pureL rfl ?_
    refine zl_nil ?_
    refine zk_seq ?_
    refine zc_ret ?_
    refine zk_ret_then ?_
    refine zk_ret1 (.inr rfl) rfl rfl ⟨?_, Chg.refl _ _⟩
    have : ¬ l1.length = l2.length := by omega
    simp [tagSame, this]
  · refine zl_nil ?_
    refine zk_seq ?_
    refine zc_false rfl ?_
    refine zc_skip ?_
    refine zk_seq ?_
    iterate 2 (refine zc_seq ?_)
    refine zc_region ?_
    refine zl_pureL rfl ?_
    refine z_len want_none (by decide) rfl ?_
    refine zl_pureL rfl ?_
    refine zl_nil ?_
    refine zk_seq ?_
    refine zc_block ?_
    refine zc_loopW (ι := Nat) (fun k u => [(1, .slice A2 l2.length c2), (12, .slice A1 l1.length c1), (13, .int .i64 l1.length), (14, .int .i64 k)])
      (fun k u => k ≤ l1.length ∧ Chg w u No ∧ tagSame l1 l2 = (l1.drop k).all (fun y => l2.any (atEq y))) (fun k u => l1.length - k) 0 ⟨Nat.zero_le _, Chg.refl _ _, ?_⟩ ?_ ?_
    · have : l1.length = l2.length := by omega
      simp [tagSame, this]
    · exact ⟨rfl, rfl, rfl, rfl, trivial⟩
    rintro k w2 ⟨hk, hC, hb⟩
    by_cases hlt : k < l1.length
    · obtain ⟨b, o, c', hv, g0, g1⟩ := (h1.no hC).at_ k hlt
      cases hv
      refine zc_seq ?_
      refine zc_region ?_
      refine z_cmpB (r := true) want_none (by decide) rfl rfl rfl (iff_of_true rfl (by omega)) ?_
      refine zl_nil ?_
      refine zk_seq ?_
      refine zc_seq ?_
      refine zc_true rfl ?_
      refine zc_skip ?_
      refine zk_seq ?_
      refine zc_seq ?_
      refine zc_block ?_
      refine zc_seq ?_
      refine zc_region ?_
      refine z_ia want_none (by decide) rfl rfl (by omega) (by omega) ?_
      refine z_loadA (by rfl) (by first | exact want_none | exact want_L rfl) (by decide) rfl (agg2 g0 g1 (by omega)) ?_
      refine z_alloc (by first | exact want_none | exact want_L rfl) (by decide) (fun w3 b3 hN3 => ?_)
      have hb3 := hN3.blk
      skip
      refine z_store (by first | exact want_none | exact want_L rfl) rfl rfl rfl (by assumption) (by first | exact Nat.le_refl _ | simp [Value.cells]) (by simp [Value.cells, Value.oneCell']) (fun w4 hU => ?_)
      have hC4 := (hC.new hN3).upd hU (hN3.ge hC)
      have hb4 : Blk w4 b3 89 [.string (l1.getD k at0).1, .string (l1.getD k at0).2] := hU.blk
      refine zl_nil ?_
      refine zk_seq ?_
      refine zc_seq ?_
      refine zc_region ?_
      refine zl_pureL rfl ?_
      refine z_loadAB want_none (by decide) rfl (by assumption) (by rfl) ?_
      refine zl_call (by first | exact want_none | exact want_L rfl) rfl (by decide) rfl (among_calls (l1.getD k at0) (h2.no hC4) hl2) ?_
      rintro _ w5 ⟨rfl, hC5⟩
      refine ⟨_, rfl, ?_⟩
      have hC6 := hC4.no hC5
      cases hq : l2.any (atEq (l1.getD k at0))
      · refine zl_pureL rfl ?_
        refine zl_nil ?_
        refine zk_seq ?_
        refine zc_true rfl ?_
        refine zc_seq ?_
        refine zc_region ?_
        refine zl_pureL rfl ?_
        refine zl_nil ?_
        refine zk_seq ?_
        refine zc_ret ?_
        refine zk_ret_block ?_
        iterate 2 (refine zk_ret_then ?_)
        refine zk_ret_block ?_
        refine zk_ret_then ?_
        refine zk_ret1 (.inr rfl) rfl rfl ⟨?_, hC6⟩
        rw [hb, all_drop at0 _ _ _ hlt, hq]; rfl
      · refine zl_pureL rfl ?_
        refine zl_nil ?_
        refine zk_seq ?_
        refine zc_false rfl ?_
        refine zc_skip ?_
        refine zk_norm_block ?_
        refine zk_seq ?_
        refine zc_region ?_
        refine z_add want_none (by decide) rfl rfl (by omega) (by omega) ?_
        refine zl_pureL rfl ?_
        refine zl_nil ?_
        refine zk_loopW (k + 1) ⟨by omega, hC6, ?_⟩ (by omega) ⟨rfl, rfl, rfl, get_int rfl (by omega), trivial⟩
        rw [hb, all_drop at0 _ _ _ hlt, hq]; rfl
    · obtain rfl : k = l1.length := by omega
      refine zc_seq ?_
      refine zc_region ?_
      refine z_cmpB (r := false) want_none (by decide) rfl rfl rfl (iff_of_false Bool.false_ne_true (by omega)) ?_
      refine zl_nil ?_
      refine zk_seq ?_
      refine zc_seq ?_
      refine zc_false rfl ?_
      refine zc_exit ?_
      iterate 2 (refine zk_exit_then ?_)
      refine zk_exit_block ?_
      refine zk_seq ?_
      refine zc_seq ?_
      refine zc_region ?_
      refine zl_pureL rfl ?_
      refine zl_nil ?_
      refine zk_seq ?_
      refine zc_ret ?_
      refine zk_ret1 (.inr rfl) rfl rfl ⟨?_, hC⟩
      rw [hb, List.drop_length]; rfl
end Go.Proofs.Yteeibieaapiomaa.M
/- MRead -/
/- The calls that only read: begin, Len, Find, Of. -/
namespace Go.Proofs.Yteeibieaapiomaa.M
open Go Go.Z Go.Proofs
set_option linter.unusedVariables false
theorem len_calls {w : World} {g : Nat} {v : Value} {L : List Mark} (h : IsM w 91 g v L) :
    Calls Try.prog 63 [Value.pointer (some ⟨g, 0, none⟩)].toArray w fun e w' => e = .returned (.int .i64 L.length) ∧ w' = w := by
  obtain ⟨A, c, rfl, hc⟩ := h.form
  have hg := h.1
  refine calls_zc (n := 8) (f := 63) (fn := Try.f63) Try.func63 rfl rfl (by simp) ?_
  refine zc_seq ?_
  refine zc_region ?_
  refine zl_pureL rfl ?_
  refine zl_nil ?_
  refine zk_seq ?_
  refine zc_seq ?_
  refine zc_region ?_
  iterate 2 (refine zl_pureL rfl ?_)
  refine z_fa want_none (by decide) rfl ?_
  refine z_loadB want_none (by decide) rfl (by assumption) (by rfl) ?_
  refine z_len want_none (by decide) rfl ?_
  refine zl_pureL rfl ?_
  refine zl_nil ?_
  refine zk_seq ?_
  refine zc_ret ?_
  exact zk_ret1 (.inr rfl) rfl rfl ⟨rfl, rfl⟩

theorem begin_calls {w : World} {g : Nat} {v : Value} {L : List Mark} (h : IsM w 91 g v L) (hl : L.length ≤ 100000) :
    Calls Try.prog 57 [Value.pointer (some ⟨g, 0, none⟩)].toArray w fun e w' => e = .returned (.int .i64 (beginN L L.length)) ∧ w' = w := by
  obtain ⟨A, c, hv, hc⟩ := h.form
  have hat := h.at_
  have hg := h.1
  subst hv
  refine calls_zc (n := 26) (f := 57) (fn := Try.f57) Try.func57 rfl rfl (by simp) ?_
  refine zc_seq ?_
  refine zc_region ?_
  refine zl_pureL rfl ?_
  refine zl_nil ?_
  refine zk_seq ?_
  refine zc_seq ?_
  refine zc_region ?_
  iterate 2 (refine zl_pureL rfl ?_)
  refine z_fa want_none (by decide) rfl ?_
  refine z_loadB want_none (by decide) rfl (by assumption) (by rfl) ?_
  refine z_len want_none (by decide) rfl ?_
  refine zl_pureL rfl ?_
  refine zl_nil ?_
  refine zk_seq ?_
  refine zc_seq ?_
  refine zc_block ?_
  refine zc_loop (ι := Nat) (fun k => [(0, .pointer (some ⟨g, 0, none⟩)), (3, .int .i64 k)]) (fun _ => w) (fun k => k ≤ L.length ∧ beginN L k = beginN L L.length) (fun k => k) L.length ⟨Nat.le_refl _, rfl⟩ ?_ ?_ ?_
  · rfl
  · exact ⟨rfl, rfl, trivial⟩
  rintro k ⟨hk, hb⟩
  cases k with
  | zero =>
    iterate 2 (refine zc_seq ?_)
    refine zc_region ?_
    refine zl_pureL rfl ?_
    refine z_cmpB (r := false) want_none (by decide) rfl rfl rfl (iff_of_false Bool.false_ne_true (by omega)) ?_
    iterate 3 (refine zl_pureL rfl ?_)
    iterate 2 (refine zl_skip rfl ?_)
    refine zl_pureL rfl ?_
    iterate 5 (refine zl_skip rfl ?_)
    refine zl_pureL rfl ?_
    refine zl_nil ?_
    refine zk_seq ?_
    refine zc_false rfl ?_
    refine zc_exit ?_
    iterate 2 (refine zk_exit_then ?_)
    refine zk_exit_block ?_
    refine zk_seq ?_
    refine zc_seq ?_
    refine zc_region ?_
    iterate 2 (refine zl_pureL rfl ?_)
    refine zl_nil ?_
    refine zk_seq ?_
    refine zc_ret ?_
    refine zk_ret1 (.inr rfl) rfl rfl ⟨?_, rfl⟩
    rw [← hb]; rfl
  | succ k =>
    obtain ⟨b, c', A', hv, h0, h1, h2, h3⟩ := hat k (by omega)
    cases hv
    iterate 2 (refine zc_seq ?_)
    refine zc_region ?_
    refine zl_pureL rfl ?_
    refine z_cmpB (r := true) want_none (by decide) rfl rfl rfl (iff_of_true rfl (by omega)) ?_
    iterate 3 (refine zl_pureL rfl ?_)
    refine z_fa (want_L rfl) (by decide) rfl ?_
    refine z_loadB (want_L rfl) (by decide) rfl (by assumption) (by rfl) ?_
    refine zl_pureL rfl ?_
    refine z_sub (want_L rfl) (by decide) rfl rfl (by omega) (by omega) ?_
    refine z_ia (want_L rfl) (by decide) rfl rfl (by omega) (by omega) ?_
    refine z_fa (want_L rfl) (by decide) rfl ?_
    refine z_load1 (by first | exact want_none | exact want_L rfl) (by decide) rfl (cell_at h0 (by omega)) ?_
    skip
    refine z_cmp (by first | exact want_none | exact want_L rfl) (by decide) rfl rfl rfl (fun hc => ?_) (fun hc => ?_)
    · refine zl_pureL rfl ?_
      refine zl_nil ?_
      refine zk_seq ?_
      refine zc_true rfl ?_
      refine zc_skip ?_
      refine zk_seq ?_
      refine zc_block ?_
      refine zc_region ?_
      refine zl_pureL rfl ?_
      refine z_sub want_none (by decide) rfl rfl (by omega) (by omega) ?_
      refine zl_pureL rfl ?_
      refine zl_nil ?_
      refine zk_norm_block ?_
      refine zk_loop k ⟨by omega, ?_⟩ (by omega) rfl ⟨rfl, get_int rfl (by omega), trivial⟩
      rw [← hb, beginN, if_pos hc]
    · refine zl_pureL rfl ?_
      refine zl_nil ?_
      refine zk_seq ?_
      refine zc_false rfl ?_
      refine zc_exit ?_
      iterate 2 (refine zk_exit_then ?_)
      refine zk_exit_block ?_
      refine zk_seq ?_
      refine zc_seq ?_
      refine zc_region ?_
      iterate 2 (refine zl_pureL rfl ?_)
      refine zl_nil ?_
      refine zk_seq ?_
      refine zc_ret ?_
      refine zk_ret1 (.inr rfl) rfl rfl ⟨?_, rfl⟩
      rw [← hb, beginN, if_neg hc]

def findN (L : List Mark) (nm : ByteArray) : Nat → Int
  | 0 => -1
  | i + 1 => if 0 ≤ (L.getD i Mark.z).node then (if (L.getD i Mark.z).name = nm then (i : Int) else findN L nm i) else -1

/-- the place of the first mark of a node, from i on, k of them -/
def ofN (L : List Mark) (nd : Int) : Nat → Nat → Int
  | _, 0 => -1
  | i, k + 1 => if (L.getD i Mark.z).node = nd then (i : Int) else ofN L nd (i + 1) k

end Go.Proofs.Yteeibieaapiomaa.M
/- MOwn -/
/- A mark with a list of its own; keys. -/
namespace Go.Proofs.Yteeibieaapiomaa.M
open Go Go.Z Go.Proofs
set_option linter.unusedVariables false
/-- a slice of attributes whose row was made since a heap of size B -/
def NewS (B : Nat) (v : Value) : Prop := ∀ k, v.ownBlock = some k → B ≤ k
theorem own_calls {w : World} {nd : Int} {nm : ByteArray} {av : Value} {l : List At} (h : AttrS w av l) (hl : l.length ≤ 100000) :
    Calls Try.prog 61 [.agg #[.int .i64 nd, .string nm, av]].toArray w fun e w' => ∃ v', e = .returned (.agg #[.int .i64 nd, .string nm, v']) ∧ AttrS w' v' l ∧ NewS w.heap.size v' ∧ Chg w w' No := by
  obtain ⟨A, c, hv, hc⟩ := h.form
  subst hv
  refine calls_zc (n := 15) (f := 61) (fn := Try.f61) Try.func61 rfl rfl (by simp) ?_
  refine zc_seq ?_
  refine zc_region ?_
  refine z_box (by first | exact want_none | exact want_L rfl) (by decide) rfl (fun w1 b1 hN1 => ?_)
  have hb1 : Blk w1 b1 45 [.int .i64 nd, .string nm, .slice A l.length c] := hN1.blk
  refine z_alloc (by first | exact want_none | exact want_L rfl) (by decide) (fun w2 b2 hN2 => ?_)
  have hb1' := hb1.no hN2.chg
  have hb2 : Blk w2 b2 45 [.int .i64 0, .string ⟨#[]⟩, .slice none 0 0] := hN2.blk
  have hC2 := hN1.chg.new hN2
  refine zl_nil ?_
  refine zk_seq ?_
  refine zc_seq ?_
  refine zc_region ?_
  refine z_fa want_none (by decide) rfl ?_
  refine z_loadB want_none (by decide) rfl (by assumption) (by rfl) ?_
  refine z_len want_none (by decide) rfl ?_
  refine z_make (by first | exact want_none | exact want_L rfl) (by decide) rfl rfl (Nat.le_refl _) (by omega) (by omega) (fun w3 b3 hN3 => ?_)
  have hC3 := hC2.new hN3
  have hb1 := hb1'.no hN3.chg
  have hb2 := hb2.no hN3.chg
  clear hb1'
  have hb3 := hN3.blk
  refine zl_pureL rfl ?_
  refine zl_nil ?_
  refine zk_seq ?_
  refine zc_seq ?_
  refine zc_region ?_
  refine zl_pureL rfl ?_
  refine z_fa want_none (by decide) rfl ?_
  refine z_loadB want_none (by decide) rfl (by assumption) (by rfl) ?_
  refine z_copyG (o := 0) (by first | exact want_none | exact want_L rfl) (by decide) rfl rfl (RdS.no h hC3) hb3 (fun _ => rfl) (by simp [size_madeCells]) (fun w4 hU => ?_)
  have hlen : (madeCells (Value.agg #[.string ⟨#[]⟩, .string ⟨#[]⟩]).cells (l.length * 2)).toList.length = (encA l).length := by simp [size_madeCells, encA_len]
  rw [show Nat.min l.length l.length = l.length from Nat.min_self _, show (encA l).take (l.length * 2) = encA l by rw [← encA_len, List.take_length], lay_full hlen] at hU
  have hC4 := hC3.upd hU (hN3.ge hC2)
  have hb1 := hb1.chg hU.chg (by have := hN1.at_; have := hN3.at_; have := hb1.lt; have := hN1.size; have := hN2.size; show ¬ b1 = b3; omega)
  have hb2 := hb2.chg hU.chg (by have := hN2.at_; have := hN3.at_; have := hN2.size; show ¬ b2 = b3; omega)
  have hat : AttrS w4 (.slice (some ⟨b3, 0, none⟩) l.length l.length) l := RdS.blk hU.blk (encA_len l) (Nat.le_refl _) (encA_one l) 0 (fun j u hj => by simpa using hj)
  refine zl_nil ?_
  refine zk_seq ?_
  refine zc_seq ?_
  refine zc_region ?_
  refine zl_pureL rfl ?_
  refine z_fa want_none (by decide) rfl ?_
  refine z_store (by first | exact want_none | exact want_L rfl) rfl rfl rfl (by assumption) (by first | exact Nat.le_refl _ | simp [Value.cells]) (by simp [Value.cells, Value.oneCell']) (fun w5 hU5 => ?_)
  have hb1 : Blk w5 b1 45 [.int .i64 nd, .string nm, .slice (some ⟨b3, 0, none⟩) l.length l.length] := hU5.blk
  have hC5 := hC4.upd hU5 (hN1.ge (Chg.refl _ No))
  have hb2 := hb2.chg hU5.chg (by have := hN1.at_; have := hN2.at_; have := hN1.size; show ¬ b2 = b1; omega)
  have hat := RdS.upd hat hU5 (by decide)
  refine zl_nil ?_
  refine zk_seq ?_
  refine zc_seq ?_
  refine zc_region ?_
  refine z_loadAB want_none (by decide) rfl (by assumption) (by rfl) ?_
  refine z_store (by first | exact want_none | exact want_L rfl) rfl rfl rfl (by assumption) (by first | exact Nat.le_refl _ | simp [Value.cells]) (by simp [Value.cells, Value.oneCell']) (fun w6 hU6 => ?_)
  have hb2' : Blk w6 b2 45 [.int .i64 nd, .string nm, .slice (some ⟨b3, 0, none⟩) l.length l.length] := hU6.blk
  have hC6 := hC5.upd hU6 (hN2.ge hN1.chg)
  have hat := RdS.upd hat hU6 (by decide)
  refine zl_nil ?_
  refine zk_seq ?_
  refine zc_ret ?_
  refine zk_retC (.inr rfl) rfl rfl hb2' rfl ⟨_, rfl, hat, ?_, hC6⟩
  intro k hk
  simp only [Value.ownBlock, Option.some.injEq] at hk
  subst hk
  exact hN3.ge hC2
/-- keys held against each other -/
theorem eq_key {w : World} {a b : ByteArray} {m k : Int} (d : Nat) : (Op.equalIn (d + 5) 93 (.agg #[.string a, .int .i64 m]) (.agg #[.string b, .int .i64 k])).run Try.prog w = .ok (decide (a = b) && (decide (m = k) && true)) w := by
  refine eq_struct Try.underlying93 (by kernel_rfl) ?_
  refine eqF_cons (by rfl) (part1 rfl) (part1 rfl) eq_str ?_
  exact eqF_cons (by rfl) (part1 rfl) (part1 rfl) eq_int eqF_nil
theorem keyOf_calls {w : World} {nd : Int} {nm : ByteArray} {av : Value} {l : List At} (h : AttrS w av l) :
    Calls Try.prog 58 [.agg #[.int .i64 nd, .string nm, av]].toArray w fun e w' => e = .returned (.agg #[.string nm, .int .i64 l.length]) ∧ Chg w w' No := by
  obtain ⟨A, c, hv, hc⟩ := h.form
  subst hv
  refine calls_zc (n := 9) (f := 58) (fn := Try.f58) Try.func58 rfl rfl (by simp) ?_
  refine zc_seq ?_
  refine zc_region ?_
  refine z_box (by first | exact want_none | exact want_L rfl) (by decide) rfl (fun w1 b1 hN1 => ?_)
  have hb1 : Blk w1 b1 45 [.int .i64 nd, .string nm, .slice A l.length c] := hN1.blk
  refine z_alloc (by first | exact want_none | exact want_L rfl) (by decide) (fun w2 b2 hN2 => ?_)
  have hb1' := hb1.no hN2.chg
  have hb2 : Blk w2 b2 93 [.string ⟨#[]⟩, .int .i64 0] := hN2.blk
  refine zl_nil ?_
  refine zk_seq ?_
  refine zc_seq ?_
  refine zc_region ?_
  refine z_fa want_none (by decide) rfl ?_
  refine z_loadB want_none (by decide) rfl (by assumption) (by rfl) ?_
  refine z_fa want_none (by decide) rfl ?_
  refine z_loadB want_none (by decide) rfl (by assumption) (by rfl) ?_
  refine z_len want_none (by decide) rfl ?_
  refine z_buildE #[.string nm, .int .i64 l.length] (by first | exact want_none | exact want_L rfl) (by decide) rfl (by kernel_rfl) ?_
  refine z_store (by first | exact want_none | exact want_L rfl) rfl rfl rfl (by assumption) (by first | exact Nat.le_refl _ | simp [Value.cells]) (by simp [Value.cells, Value.oneCell']) (fun w3 hU => ?_)
  have hb3 : Blk w3 b2 93 [.string nm, .int .i64 l.length] := hU.blk
  refine zl_nil ?_
  refine zk_seq ?_
  refine zc_ret ?_
  exact zk_retC (.inr rfl) rfl rfl hb3 rfl ⟨rfl, (hN1.chg.new hN2).upd hU (hN2.ge hN1.chg)⟩
end Go.Proofs.Yteeibieaapiomaa.M
/- MWr -/
/- The calls that write a list of marks. -/
namespace Go.Proofs.Yteeibieaapiomaa.M
open Go Go.Z Go.Proofs
set_option linter.unusedVariables false
/-- what a call on the list behind g may write, and where its row is then -/
structure Wr (w w' : World) (g : Nat) (v v' : Value) : Prop where
  chg : Chg w w' (foot g v)
  row : v'.ownBlock = v.ownBlock ∨ ∃ k, v'.ownBlock = some k ∧ w.heap.size ≤ k
theorem Wr.refl (w : World) (g : Nat) (v : Value) : Wr w w g v v := ⟨Chg.refl _ _, .inl rfl⟩
theorem Wr.of_no {w w' : World} (h : Chg w w' No) (g : Nat) (v : Value) : Wr w w' g v v := ⟨h.mono (fun _ _ h => h.elim), .inl rfl⟩
theorem Wr.foot {w w' : World} {g : Nat} {v v' : Value} (h : Wr w w' g v v') : ∀ i, i < w.heap.size → foot g v' i → foot g v i := by
  rintro i hi (rfl | hk)
  · exact .inl rfl
  · rcases h.row with h1 | ⟨k, h1, h2⟩
    · exact .inr (h1 ▸ hk)
    · rw [hk] at h1; cases h1; omega
theorem Wr.trans {w w1 w2 : World} {g : Nat} {v v1 v2 : Value} (h : Wr w w1 g v v1) (k : Wr w1 w2 g v1 v2) : Wr w w2 g v v2 := by
  refine ⟨h.chg.trans k.chg h.foot, ?_⟩
  rcases k.row with h1 | ⟨j, h1, h2⟩
  · rw [h1]; exact h.row
  · exact .inr ⟨j, h1, Nat.le_trans h.chg.size h2⟩
theorem Wr.no {w w1 w2 : World} {g : Nat} {v v1 : Value} (h : Wr w w1 g v v1) (k : Chg w1 w2 No) : Wr w w2 g v v1 := ⟨h.chg.no k, h.row⟩
theorem Wr.pre {w w1 w2 : World} {g : Nat} {v v2 : Value} (k : Chg w w1 No) (h : Wr w1 w2 g v v2) : Wr w w2 g v v2 := (Wr.of_no k g v).trans h
/-- rows of attributes stay -/
def K47 (w w' : World) : Prop := ∀ b cells, Blk w b 89 cells → Blk w' b 89 cells
section
variable {w w' w1 w2 : World} {S : Nat → Prop}
theorem K47.trans (h : K47 w w1) (k : K47 w1 w2) : K47 w w2 := fun b c hb => k b c (h b c hb)
theorem K47.no (h : Chg w w' No) : K47 w w' := fun b c hb => hb.no h
theorem K47.upd {b t : Nat} {cs : List Value} (h : Upd w w' b t cs) (ht : 89 ≠ t) : K47 w w' := fun _ _ hb => hb.upd h ht
theorem K47.own {v : Value} {m t sz : Nat} {cs : List Value} (h : Own w t sz v m cs) (ht : t ≠ 89) (hc : Chg w w' (fun k => v.ownBlock = some k)) : K47 w w' := fun b c hb => hb.chg hc (fun he => h.ne he hb ht rfl)
theorem AttrS.keep {v : Value} {l : List At} (h : AttrS w v l) (k : K47 w w') : AttrS w' v l := by
  obtain ⟨h1, h2, A, c, h3, h4, h5⟩ := h
  refine ⟨h1, h2, A, c, h3, h4, fun hm => ?_⟩
  obtain ⟨b, o, cells, h6, h7, h8⟩ := h5 hm
  exact ⟨b, o, cells, h6, k b cells h7, h8⟩
theorem MR.keep {m : MV} {x : Mark} (h : MR w m x) (k : K47 w w') : MR w' m x := ⟨h.1, h.2.1, h.2.2.keep k⟩
theorem all2_keep {ms : List MV} {L : List Mark} (h : All2 (MR w) ms L) (k : K47 w w') : All2 (MR w') ms L := h.imp (fun _ _ h => h.keep k)
end
def mval (m : MV) : Value := .agg #[.int .i64 m.node, .string m.name, m.attrs]
/-- a row of one mark -/
theorem RdS.mark {w w' : World} {b : Nat} {m : MV} {x : Mark} (hx : MR w m x) (h : New w w' b 45 (mval m).cells.toList) : RdS w' 45 3 (.slice (some ⟨b, 0, none⟩) 1 1) 1 (encM [m]) := by
  refine RdS.new h rfl ?_
  obtain ⟨A, c, hv, _⟩ := hx.2.2.form
  intro u hu
  simp only [encM, List.mem_cons, List.not_mem_nil, or_false] at hu
  rcases hu with rfl | rfl | rfl
  · rfl
  · rfl
  · rw [hv]; rfl
theorem IsM.mk' {w : World} {st g n : Nat} {v : Value} {ms : List MV} {cs : List Value} {L : List Mark} (hg : Blk w g st [v]) (hO : Own w 45 3 v n cs) (hn : n = ms.length) (hcs : cs = encM ms) (hA : All2 (MR w) ms L) : IsM w st g v L := by
  subst hn; subst hcs; exact ⟨hg, ms, hO, hA⟩
def Mark.wall : Mark := ⟨-1, ⟨#[]⟩, []⟩
theorem getD_mem {α : Type} {d : α} {l : List α} {k : Nat} (h : k < l.length) : l.getD k d ∈ l := by
  rw [List.getD_eq_getElem?_getD, List.getElem?_eq_getElem h]; exact List.getElem_mem h
theorem cell_no {w w' : World} {b o : Nat} {u : Value} (hc : Chg w w' No) (h : w.cell? ⟨b, o, none⟩ = some u) : w'.cell? ⟨b, o, none⟩ = some u := by
  have hlt : b < w.heap.size := by
    rcases Nat.lt_or_ge b w.heap.size with h1 | h1
    · exact h1
    · simp [World.cell?, Array.getElem?_eq_none h1] at h
  have := hc.same b hlt id
  simp only [World.cell?, this] at h ⊢
  exact h
theorem ev_ptr {e : Env} {x : Operand} {b o o' : Nat} (h : ev e x = some (.pointer (some ⟨b, o, none⟩))) (ho : o = o') : ev e x = some (.pointer (some ⟨b, o', none⟩)) := by rw [h, ho]
theorem new_calls {w : World} : Calls Try.prog 44 [].toArray w fun e w' => ∃ g, e = .returned (.pointer (some ⟨g, 0, none⟩)) ∧ IsM w' 91 g (.slice none 0 0) [] ∧ Chg w w' No ∧ w.heap.size ≤ g := by
  refine calls_zc (n := 3) (f := 44) (fn := Try.f44) Try.func44 rfl rfl (by simp) ?_
  refine zc_seq ?_
  refine zc_region ?_
  refine zl_pureL rfl ?_
  refine zl_nil ?_
  refine zk_seq ?_
  refine zc_seq ?_
  refine zc_region ?_
  refine z_buildE #[.slice none 0 0] (by first | exact want_none | exact want_L rfl) (by decide) rfl (by kernel_rfl) ?_
  refine z_box (by first | exact want_none | exact want_L rfl) (by decide) rfl (fun w1 b1 hN1 => ?_)
  refine zl_pureL rfl ?_
  refine zl_nil ?_
  refine zk_seq ?_
  refine zc_ret ?_
  exact zk_ret1 (.inr rfl) rfl rfl ⟨b1, rfl, ⟨hN1.blk, [], Own.nil, trivial⟩, hN1.chg, Nat.le_of_eq hN1.at_.symm⟩
end Go.Proofs.Yteeibieaapiomaa.M
/- MClr -/
/- Clear, Drop. -/
namespace Go.Proofs.Yteeibieaapiomaa.M
open Go Go.Z Go.Proofs
set_option linter.unusedVariables false
def clearN (L : List Mark) : List Mark := L.take (beginN L L.length - 1)
theorem IsM.front {w w' : World} {st g c : Nat} {A : Option Addr} {L : List Mark} (h : IsM w st g (.slice A L.length c) L) (h1 : st ≠ 89) (k : Nat) (hk : k ≤ L.length) (hU : Upd w w' g st [.slice A k c]) (hst : st ≠ 45) : IsM w' st g (.slice A k c) (L.take k) := by
  have hne := h.ne hst
  obtain ⟨hg, ms, hO, hA⟩ := h
  have hlen := hA.length
  rw [hlen] at hO
  refine IsM.mk' (ms := ms.take k) hU.blk ((hO.take k hk).chg hU.chg (fun j hj he => hne ?_)) (by rw [List.length_take]; omega) (encM_take ms k).symm ((all2_keep hA (K47.upd hU (Ne.symm h1))).take k)
  rw [← he, ← hj]
  cases A <;> rfl
theorem Upd.wr {w w' : World} {st g k m c : Nat} {A : Option Addr} (hU : Upd w w' g st [.slice A k c]) : Wr w w' g (.slice A m c) (.slice A k c) := ⟨hU.chg.mono (fun _ _ h => .inl h), .inl (by cases A <;> rfl)⟩
theorem optI_eq {x : Option Operand} {e : Env} {d a b : Int} (h : optI x e d = some a) (hab : a = b) : optI x e d = some b := by rw [h, hab]
def dropM (L : List Mark) (i : Nat) : List Mark := L.take i ++ L.drop (i + 1)
theorem lay_drop {α : Type} (l : List α) (i : Nat) (h : i < l.length) : (l.take i ++ l.drop (i + 1) ++ l.drop (l.length - 1)).take (l.length - 1) = l.take i ++ l.drop (i + 1) := by
  rw [List.take_append_of_le_length (by simp; omega), List.take_of_length_le (by simp; omega)]
set_option maxHeartbeats 4000000 in
theorem drop_calls {w : World} {g : Nat} {v : Value} {L : List Mark} (h : IsM w 91 g v L) (hl : L.length ≤ 100000) (i : Nat) (hi : i < L.length) :
    Calls Try.prog 60 [Value.pointer (some ⟨g, 0, none⟩), .int .i64 i].toArray w fun e w' => e = .returned (.bool true) ∧ ∃ v', IsM w' 91 g v' (dropM L i) ∧ Wr w w' g v v' := by
  obtain ⟨b, c, A0, hv, _⟩ := h.at_ i hi
  subst hv
  have hg := h.1
  have hne := h.ne (by decide)
  have h47 := h.foot47 (by decide)
  obtain ⟨_, ms, hO, hA⟩ := h
  have hlen := hA.length
  rw [hlen] at hO
  have hc : L.length ≤ c := by obtain ⟨_, _, hv, hc⟩ := hO.rd.form; cases hv; exact hc
  refine calls_zc (n := 44) (f := 60) (fn := Try.f60) Try.func60 rfl rfl (by simp) ?_
  refine zc_seq ?_
  refine zc_region ?_
  refine zl_pureL rfl ?_
  refine zl_nil ?_
  refine zk_seq ?_
  iterate 2 (refine zc_seq ?_)
  refine zc_region ?_
  refine zl_pureL rfl ?_
  refine z_cmpB (r := false) want_none (by decide) rfl rfl rfl (iff_of_false Bool.false_ne_true (by omega)) ?_
  iterate 4 (refine zl_pureL rfl ?_)
  refine z_fa (want_L rfl) (by decide) rfl ?_
  refine z_loadB (want_L rfl) (by decide) rfl (by assumption) (by rfl) ?_
  refine z_len (want_L rfl) (by decide) rfl ?_
  refine z_cmpB (r := false) (want_L rfl) (by decide) rfl rfl rfl (iff_of_false Bool.false_ne_true (by omega)) ?_
  refine zl_pureL rfl ?_
  refine zl_nil ?_
  refine zk_seq ?_
  refine zc_false rfl ?_
  refine zc_skip ?_
  refine zk_seq ?_
  refine zc_seq ?_
  refine zc_draw [] (fun w' => Blk w' g 91 [.slice (some ⟨b, 0, none⟩) L.length c]) (.take 0 (.take 1 (.take 2 (.take 3 (.take 4 (.take 5 (.take 6 (.take 7 (.take 8 (.take 9 (.take 10 (.take 11 (.take 12 (.all1 13 (.fin))))))))))))))) (by rfl) (by kernel_rfl) (by kernel_rfl) (fun w1 hC1 hH1 => ⟨?_, ?_⟩)
  · exact hg.no hC1
  iterate 2 (refine zs_take rfl (zt_pure rfl ?_))
  refine zs_rdL rfl want_none rfl (by decide) (fun _ hS => r_fa rfl) ?_
  refine zs_rdL rfl want_none rfl (by decide) (fun _ hS => r_loadB rfl hS (by rfl)) ?_
  refine zs_take rfl (zt_pure rfl ?_)
  refine zs_rdL rfl (by first | exact want_none | exact want_L rfl) rfl (by decide) (fun _ hS => r_cutFrom rfl rfl (Nat.le_of_lt hi) (by omega)) ?_
  iterate 2 (refine zs_take rfl (zt_pure rfl ?_))
  refine zs_rdL rfl want_none rfl (by decide) (fun _ hS => r_fa rfl) ?_
  refine zs_rdL rfl want_none rfl (by decide) (fun _ hS => r_loadB rfl hS (by rfl)) ?_
  refine zs_take rfl (zt_pure rfl ?_)
  refine zs_rdL rfl want_none rfl (by decide) (fun _ hS => r_add rfl rfl (by omega) (by omega)) ?_
  refine zs_rdL rfl (by first | exact want_none | exact want_L rfl) rfl (by decide) (fun _ hS => r_cutFrom (k := i + 1) rfl rfl (by omega) (by omega)) ?_
  skip
  have hO1 := hO.no hC1
  have hel := encM_len ms
  obtain ⟨cells, hB, hfit, hpre, hnew⟩ := hO1.lay (o := i * 3) (vs := (encM ms).drop ((i + 1) * 3)) (by rw [List.length_drop]; omega) (fun u hu => hO.2 u (List.mem_of_mem_drop hu))
  rw [List.length_drop] at hfit
  have hmin : Nat.min (L.length - (i + 1)) (L.length - i) = L.length - (i + 1) := Nat.min_eq_left (by omega)
  refine zs_copyG (o := i * 3) rfl (by first | exact want_none | exact want_L rfl) (by decide) rfl rfl (hO1.rd.cut (k := i + 1) (by omega)) hB (fun _ => by rw [cutA_at (by omega), Nat.zero_add]) (by rw [hmin]; omega) (fun w2 hU => ?_)
  rw [hmin, List.take_of_length_le (by rw [List.length_drop]; omega)] at hU
  have hO2 := hnew w2 hU
  have hg2 := (hg.no hC1).chg hU.chg (fun he => hne (by rw [he]; rfl))
  refine ⟨hg2, ?_⟩
  have hms : Z.lay (encM ms) (i * 3) ((encM ms).drop ((i + 1) * 3)) = encM (ms.take i ++ ms.drop (i + 1) ++ ms.drop (ms.length - 1)) := by
    unfold Z.lay
    rw [encM_app, encM_app, encM_take, encM_drop, encM_drop, List.length_drop, hel, show i * 3 + (ms.length * 3 - (i + 1) * 3) = (ms.length - 1) * 3 by omega]
  rw [hms] at hO2
  have hI2 : IsM w2 91 g (.slice (some ⟨b, 0, none⟩) L.length c) (L.take i ++ L.drop (i + 1) ++ L.drop (L.length - 1)) := by
    refine IsM.mk' hg2 hO2 (by simp; omega) rfl ?_
    have hA2 := all2_keep hA ((K47.no hC1).trans (K47.own hO1 (by decide) (hU.chg.mono (fun _ _ h => by rw [h]; rfl))))
    rw [hlen]
    exact ((hA2.take i).append (hA2.drop (i + 1))).append (hA2.drop (L.length - 1))
  have hW2 : Wr w w2 g (.slice (some ⟨b, 0, none⟩) L.length c) (.slice (some ⟨b, 0, none⟩) L.length c) := Wr.pre hC1 ⟨hU.chg.mono (fun _ _ h => .inr (by rw [h]; rfl)), .inl rfl⟩
  refine zs_fin ?_
  refine zk_seq ?_
  refine zc_seq ?_
  have hll : (L.take i ++ L.drop (i + 1) ++ L.drop (L.length - 1)).length = L.length := by simp; omega
  refine zc_draw [14] (fun w' => Blk w' g 91 [.slice (some ⟨b, 0, none⟩) L.length c]) (.take 0 (.take 1 (.take 2 (.take 3 (.take 4 (.take 5 (.take 6 (.take 7 (.take 8 (.take 9 (.take 10 (.take 11 (.plain 12 (.take 13 (.last 14))))))))))))))) (by rfl) (by kernel_rfl) (by kernel_rfl) (fun w1 hC1 hH1 => ⟨?_, ?_⟩)
  · exact hg2.no ‹_›
  have hI3 := hI2.no hC1
  have hg3 := hg2.no hC1
  iterate 3 (refine zs_take rfl (zt_pure rfl ?_))
  refine zs_rdL rfl want_none rfl (by decide) (fun _ hS => r_fa rfl) ?_
  refine zs_rdL rfl want_none rfl (by decide) (fun _ hS => r_loadB rfl hS (by rfl)) ?_
  iterate 2 (refine zs_take rfl (zt_pure rfl ?_))
  refine zs_rdL rfl want_none rfl (by decide) (fun _ hS => r_fa rfl) ?_
  refine zs_rdL rfl want_none rfl (by decide) (fun _ hS => r_loadB rfl hS (by rfl)) ?_
  refine zs_rdL rfl want_none rfl (by decide) (fun _ hS => r_len rfl) ?_
  refine zs_rdL rfl want_none rfl (by decide) (fun _ hS => r_sub rfl rfl (by omega) (by omega)) ?_
  refine zs_rdL rfl (by first | exact want_none | exact want_L rfl) rfl (by decide) (fun _ hS => r_cutTo (k := L.length - 1) (.inr ⟨_, _, rfl⟩) rfl (optI_eq rfl (by omega)) (by omega)) ?_
  refine zs_plainL rfl rfl ?_
  refine zs_rdL rfl want_none rfl (by decide) (fun _ hS => r_fa rfl) ?_
  refine zs_storeL rfl (by first | exact want_none | exact want_L rfl) rfl rfl rfl (by assumption) (by first | exact Nat.le_refl _ | simp [Value.cells]) (by simp [Value.cells, Value.oneCell']) (fun w4 hU4 => ?_)
  refine zk_seq ?_
  refine zc_seq ?_
  refine zc_region ?_
  refine zl_pureL rfl ?_
  refine zl_nil ?_
  refine zk_seq ?_
  refine zc_ret ?_
  have hI4 := IsM.front (L := L.take i ++ L.drop (i + 1) ++ L.drop (L.length - 1)) (st := 91) (g := g) (c := c) (A := some ⟨b, 0, none⟩) (by rw [hll]; exact hI3) (by decide) (L.length - 1) (by rw [hll]; omega) hU4 (by decide)
  rw [show (L.take i ++ L.drop (i + 1) ++ L.drop (L.length - 1)).take (L.length - 1) = dropM L i from lay_drop L i hi] at hI4
  exact zk_ret1 (.inr rfl) rfl rfl ⟨rfl, _, hI4, (hW2.no hC1).trans (Upd.wr hU4)⟩
end Go.Proofs.Yteeibieaapiomaa.M
/- MPush -/
/- Push. -/
namespace Go.Proofs.Yteeibieaapiomaa.M
open Go Go.Z Go.Proofs
set_option linter.unusedVariables false
def keyEq (a x : Mark) : Bool := decide (a.name = x.name) && (decide ((a.attrs.length : Int) = x.attrs.length) && true)
def alike (x a : Mark) : Bool := keyEq a x && tagSame a.attrs x.attrs
def manyF (L : List Mark) (x : Mark) (k : Nat) : Nat := ((L.drop k).filter (alike x)).length
def firstF (L : List Mark) (x : Mark) : Nat → Nat → Int
  | _, 0 => -1
  | k, f + 1 => if alike x (L.getD k Mark.z) then (k : Int) else firstF L x (k + 1) f
def pushM (L : List Mark) (x : Mark) : List Mark :=
  (if 3 ≤ manyF L x (beginN L L.length) then dropM L (firstF L x (beginN L L.length) (L.length - beginN L L.length)).toNat else L) ++ [x]
theorem drop_cons {α : Type} (d : α) (l : List α) (k : Nat) (h : k < l.length) : l.drop k = l.getD k d :: l.drop (k + 1) := by
  rw [List.drop_eq_getElem_cons h, List.getD_eq_getElem?_getD, List.getElem?_eq_getElem h]; rfl
theorem manyF_le (L : List Mark) (x : Mark) (k : Nat) : manyF L x k ≤ L.length - k := by
  unfold manyF; exact Nat.le_trans (List.length_filter_le _ _) (by simp)
theorem firstF_lt (L : List Mark) (x : Mark) : ∀ (f k : Nat), f = L.length - k → k ≤ L.length → 0 < manyF L x k → 0 ≤ firstF L x k f ∧ firstF L x k f < L.length
  | 0, k, hf, hk, hm => by have := manyF_le L x k; omega
  | f + 1, k, hf, hk, hm => by
    unfold firstF
    split
    · omega
    · rename_i hn
      refine firstF_lt L x f (k + 1) (by omega) (by omega) ?_
      unfold manyF at hm ⊢
      rw [drop_cons Mark.z L k (by omega), List.filter_cons, if_neg hn] at hm
      exact hm
set_option maxHeartbeats 8000000 in
theorem push_calls {w : World} {g : Nat} {v av : Value} {L : List Mark} {nd : Int} {nm : ByteArray} {l : List At} (h : IsM w 91 g v L) (hl : L.length ≤ 100000) (ha : AttrS w av l) (hal : l.length ≤ 100000) (hLal : ∀ m ∈ L, m.attrs.length ≤ 100000) :
    Calls Try.prog 26 [Value.pointer (some ⟨g, 0, none⟩), .agg #[.int .i64 nd, .string nm, av]].toArray w fun e w' => e = .returned (.tuple #[]) ∧ ∃ v', IsM w' 91 g v' (pushM L ⟨nd, nm, l⟩) ∧ Wr w w' g v v' := by
  obtain ⟨A2, c2, hv2, hc2⟩ := ha.form
  subst hv2
  obtain ⟨A0, c0, hv0, hc0⟩ := h.form
  subst hv0
  refine calls_zc (n := 62) (f := 26) (fn := Try.f26) Try.func26 rfl rfl (by simp) ?_
  refine zc_seq ?_
  refine zc_region ?_
  refine z_box (by first | exact want_none | exact want_L rfl) (by decide) rfl (fun w1 b1 hN1 => ?_)
  have hb1 : Blk w1 b1 45 [.int .i64 nd, .string nm, .slice A2 l.length c2] := hN1.blk
  have hg1 := (h.no hN1.chg).1
  refine zl_nil ?_
  refine zk_seq ?_
  refine zc_seq ?_
  refine zc_region ?_
  iterate 2 (refine zl_pureL rfl ?_)
  refine zl_nil ?_
  refine zk_seq ?_
  iterate 2 (refine zc_seq ?_)
  refine zc_region ?_
  iterate 2 (refine zl_pureL rfl ?_)
  refine z_fa want_none (by decide) rfl ?_
  refine z_loadB want_none (by decide) rfl (by assumption) (by rfl) ?_
  refine z_len want_none (by decide) rfl ?_
  refine z_sub want_none (by decide) rfl rfl (by omega) (by omega) ?_
  refine zl_pureL rfl ?_
  refine zl_nil ?_
  refine zk_seq ?_
  refine zc_block ?_
  refine zc_loopW (ι := Nat) (fun k u => [(0, .pointer (some ⟨g, 0, none⟩)), (3, .pointer (some ⟨b1, 0, none⟩)), (4, .int .i64 (manyF L ⟨nd, nm, l⟩ k)), (5, .int .i64 (firstF L ⟨nd, nm, l⟩ k (L.length - k))), (6, .int .i64 (k - 1))])
    (fun k u => beginN L L.length ≤ k ∧ k ≤ L.length ∧ Chg w1 u No) (fun k u => k) L.length ⟨beginN_le _ _, Nat.le_refl _, Chg.refl _ _⟩ ?_ ?_
  · refine ⟨rfl, rfl, ?_, ?_, rfl, trivial⟩
    · simp [manyF]; rfl
    · simp [firstF]; rfl
  rintro k w2 ⟨hbk, hk, hC⟩
  have h2 := (h.no hN1.chg).no hC
  have hb2 := hb1.no hC
  have hg2 := h2.1
  iterate 2 (refine zc_seq ?_)
  refine zc_region ?_
  iterate 2 (refine zl_pureL rfl ?_)
  refine zl_call (by first | exact want_none | exact want_L rfl) rfl (by decide) rfl (begin_calls h2 hl) ?_
  rintro _ w3 ⟨rfl, rfl⟩
  refine ⟨_, rfl, ?_⟩
  skip
  refine z_cmp (by first | exact want_none | exact want_L rfl) (by decide) rfl rfl rfl (fun hc => ?_) (fun hc => ?_)
  · have hk0 : 0 < k := by omega
    obtain ⟨k, rfl⟩ : ∃ j, k = j + 1 := ⟨k - 1, by omega⟩
    obtain ⟨b, c, A3, hv3, e0, e1, e2, ha3⟩ := h2.at_ k (by omega)
    cases hv3
    refine zl_nil ?_
    refine zk_seq ?_
    refine zc_true rfl ?_
    refine zc_skip ?_
    refine zk_seq ?_
    refine zc_seq ?_
    refine zc_block ?_
    refine zc_seq ?_
    refine zc_draw [] (fun w' => Chg w3 w' No ∧ Blk w' g 91 [.slice (some ⟨b, 0, none⟩) L.length c0] ∧ Blk w' b1 45 [.int .i64 nd, .string nm, .slice A2 l.length c2]) (.take 0 (.take 1 (.take 2 (.take 3 (.take 4 (.take 5 (.take 6 (.take 8 (.all1 7 (.all1 9 (.take 10 (.take 11 (.take 12 (.take 13 (.take 14 (.take 15 (.take 16 (.take 17 (.take 18 (.take 19 (.take 20 (.take 21 (.all1 22 (.take 23 (.fin))))))))))))))))))))))))) (by rfl) (by kernel_rfl) (by kernel_rfl) (fun w1 hC1 hH1 => ⟨?_, ?_⟩)
    · exact ⟨‹_›, hg2.no ‹_›, hb2.no ‹_›⟩
    iterate 2 (refine zs_take rfl (zt_pure rfl ?_))
    refine zs_rdL rfl want_none rfl (by decide) (fun _ hS => r_fa rfl) ?_
    refine zs_rdL rfl want_none rfl (by decide) (fun _ hS => r_loadB rfl hS.2.1 (by rfl)) ?_
    refine zs_take rfl (zt_pure rfl ?_)
    refine zs_rdL rfl want_none rfl (by decide) (fun _ hS => r_ia rfl rfl (by omega) (by omega)) ?_
    refine zs_rdL rfl (by first | exact want_none | exact want_L rfl) rfl (by decide) (fun _ hS => r_loadA (by rfl) rfl (agg3 (cell_no hS.1 e0) (cell_no hS.1 e1) (cell_no hS.1 e2) (by omega))) ?_
    refine zs_rdL rfl want_none rfl (by decide) (fun _ hS => r_loadAB rfl hS.2.2 (by rfl)) ?_
    obtain ⟨A4, c4, rfl, hc4⟩ := ha3.form
    refine zs_call rfl (by first | exact want_none | exact want_L rfl) rfl (by decide) rfl (keyOf_calls (ha3.no ‹_›)) ?_
    rintro _ w5 ⟨rfl, hC5⟩
    have hC5 := hC1.no hC5
    refine ⟨_, rfl, ⟨hC5, hg2.no hC5, hb2.no hC5⟩, ?_⟩
    have hax : AttrS w5 (.slice A2 l.length c2) l := ha.no ((hN1.chg.no hC).no hC5)
    skip
    refine zs_call rfl (by first | exact want_none | exact want_L rfl) rfl (by decide) rfl (keyOf_calls hax) ?_
    rintro _ w6 ⟨rfl, hC6⟩
    have hC6 := hC5.no hC6
    refine ⟨_, rfl, ⟨hC6, hg2.no hC6, hb2.no hC6⟩, ?_⟩
    refine zs_rdL rfl (by first | exact want_none | exact want_L rfl) rfl (by decide) (fun _ hS => r_eqA (r := keyEq (L.getD k Mark.z) ⟨nd, nm, l⟩) rfl rfl (by kernel_rfl) (fun d => eq_key d)) ?_
    have hcons := drop_cons Mark.z L k (by omega)
    have hm1 : alike ⟨nd, nm, l⟩ (L.getD k Mark.z) = true → manyF L ⟨nd, nm, l⟩ (k + 1) + 1 = manyF L ⟨nd, nm, l⟩ k ∧ (k : Int) = firstF L ⟨nd, nm, l⟩ k (L.length - k) := fun ht => by
      refine ⟨?_, ?_⟩
      · unfold manyF; rw [hcons, List.filter_cons, if_pos ht]; rfl
      · rw [show L.length - k = (L.length - (k + 1)) + 1 by omega, firstF, if_pos ht]
    have hm0 : alike ⟨nd, nm, l⟩ (L.getD k Mark.z) = false → manyF L ⟨nd, nm, l⟩ (k + 1) = manyF L ⟨nd, nm, l⟩ k ∧ firstF L ⟨nd, nm, l⟩ (k + 1) (L.length - (k + 1)) = firstF L ⟨nd, nm, l⟩ k (L.length - k) := fun ht => by
      refine ⟨?_, ?_⟩
      · unfold manyF; rw [hcons, List.filter_cons, if_neg (by rw [ht]; exact Bool.false_ne_true)]
      · rw [show L.length - k = (L.length - (k + 1)) + 1 by omega, firstF, if_neg (by rw [ht]; exact Bool.false_ne_true)]
    have hml := manyF_le L ⟨nd, nm, l⟩ (k + 1)
    cases hq : keyEq (L.getD k Mark.z) ⟨nd, nm, l⟩
    · obtain ⟨hm1, hm2⟩ := hm0 (by unfold alike; rw [hq]; rfl)
      iterate 3 (refine zs_take rfl (zt_pure rfl ?_))
      iterate 2 (refine zs_take rfl (zt_skip rfl ?_))
      refine zs_take rfl (zt_pure rfl ?_)
      iterate 5 (refine zs_take rfl (zt_skip rfl ?_))
      refine zs_alone rfl (za_skip rfl ?_)
      refine zs_take rfl (zt_pure rfl ?_)
      refine zs_fin ?_
      refine zk_seq ?_
      refine zc_false rfl ?_
      refine zc_skip ?_
      refine zk_norm_block ?_
      refine zk_seq ?_
      refine zc_region ?_
      refine zl_pureL rfl ?_
      refine z_sub want_none (by decide) rfl rfl (by omega) (by omega) ?_
      refine zl_pureL rfl ?_
      refine zl_nil ?_
      refine zk_loopW k ⟨by omega, by omega, (hC.no hC6)⟩ (by omega) ⟨rfl, rfl, get_int rfl (by omega), get_int rfl hm2, get_int rfl (by omega), trivial⟩
    · iterate 3 (refine zs_take rfl (zt_pure rfl ?_))
      refine zs_rdL rfl (want_L rfl) rfl (by decide) (fun _ hS => r_fa rfl) ?_
      refine zs_rdL rfl (want_L rfl) rfl (by decide) (fun _ hS => r_loadB rfl hS.2.1 (by rfl)) ?_
      refine zs_take rfl (zt_pure rfl ?_)
      refine zs_rdL rfl (want_L rfl) rfl (by decide) (fun _ hS => r_ia rfl rfl (by omega) (by omega)) ?_
      refine zs_rdL rfl (want_L rfl) rfl (by decide) (fun _ hS => r_fa rfl) ?_
      refine zs_rdL rfl (by first | exact want_none | exact want_L rfl) rfl (by decide) (fun _ hS => r_load1 rfl (cell_at (cell_no hS.1 e2) (by omega))) ?_
      refine zs_rdL rfl (want_L rfl) rfl (by decide) (fun _ hS => r_fa rfl) ?_
      refine zs_rdL rfl (want_L rfl) rfl (by decide) (fun _ hS => r_loadB rfl hS.2.2 (by rfl)) ?_
      refine zs_call rfl (by first | exact want_none | exact want_L rfl) rfl (by decide) rfl (tagSame_calls (ha3.no hC6) (hax.no ‹Chg w5 w6 No›) (hLal _ (getD_mem (by omega))) hal) ?_
      rintro _ w7 ⟨rfl, hC7⟩
      have hC7 := hC6.no hC7
      refine ⟨_, rfl, ⟨hC7, hg2.no hC7, hb2.no hC7⟩, ?_⟩
      have hal' : alike ⟨nd, nm, l⟩ (L.getD k Mark.z) = tagSame (L.getD k Mark.z).attrs l := by unfold alike; rw [hq]; rfl
      cases hs : tagSame (L.getD k Mark.z).attrs l
      · obtain ⟨hm1, hm2⟩ := hm0 (by rw [hal', hs])
        refine zs_take rfl (zt_pure rfl ?_)
        refine zs_fin ?_
        refine zk_seq ?_
        refine zc_false rfl ?_
        refine zc_skip ?_
        refine zk_norm_block ?_
        refine zk_seq ?_
        refine zc_region ?_
        refine zl_pureL rfl ?_
        refine z_sub want_none (by decide) rfl rfl (by omega) (by omega) ?_
        refine zl_pureL rfl ?_
        refine zl_nil ?_
        refine zk_loopW k ⟨by omega, by omega, (hC.no hC7)⟩ (by omega) ⟨rfl, rfl, get_int rfl (by omega), get_int rfl hm2, get_int rfl (by omega), trivial⟩
      · obtain ⟨hm1, hm2⟩ := hm1 (by rw [hal', hs])
        refine zs_take rfl (zt_pure rfl ?_)
        refine zs_fin ?_
        refine zk_seq ?_
        refine zc_true rfl ?_
        refine zc_seq ?_
        refine zc_region ?_
        refine zl_pureL rfl ?_
        refine z_add want_none (by decide) rfl rfl (by omega) (by omega) ?_
        refine zl_pureL rfl ?_
        refine zl_nil ?_
        refine zk_seq ?_
        refine zc_region ?_
        iterate 2 (refine zl_pureL rfl ?_)
        refine zl_nil ?_
        refine zk_norm_block ?_
        refine zk_seq ?_
        refine zc_region ?_
        refine zl_pureL rfl ?_
        refine z_sub want_none (by decide) rfl rfl (by omega) (by omega) ?_
        refine zl_pureL rfl ?_
        refine zl_nil ?_
        refine zk_loopW k ⟨by omega, by omega, (hC.no hC7)⟩ (by omega) ⟨rfl, rfl, get_int rfl (by omega), get_int rfl (by omega), get_int rfl (by omega), trivial⟩
  · obtain rfl : k = beginN L L.length := by omega
    have hml := manyF_le L ⟨nd, nm, l⟩ (beginN L L.length)
    have hCw := hN1.chg.no hC
    refine zl_nil ?_
    refine zk_seq ?_
    refine zc_false rfl ?_
    refine zc_exit ?_
    iterate 2 (refine zk_exit_then ?_)
    refine zk_exit_block ?_
    refine zk_seq ?_
    iterate 2 (refine zc_seq ?_)
    refine zc_region ?_
    refine zl_pureL rfl ?_
    refine z_cmpB (r := decide (3 ≤ manyF L ⟨nd, nm, l⟩ (beginN L L.length))) (by first | exact want_none | exact want_L rfl) (by decide) rfl rfl rfl (by simp; omega) ?_
    refine zl_nil ?_
    refine zk_seq ?_
    refine zc_midT (fun w4 => ∃ v4 M, IsM w4 91 g v4 M ∧ M.length ≤ 100000 ∧ M = (if 3 ≤ manyF L ⟨nd, nm, l⟩ (beginN L L.length) then dropM L (firstF L ⟨nd, nm, l⟩ (beginN L L.length) (L.length - beginN L L.length)).toNat else L) ∧ Wr w w4 g (.slice A0 L.length c0) v4 ∧ Blk w4 b1 45 [.int .i64 nd, .string nm, .slice A2 l.length c2] ∧ AttrS w4 (.slice A2 l.length c2) l ∧ v4.ownBlock ≠ some b1)
      [(0, .pointer (some ⟨g, 0, none⟩)), (3, .pointer (some ⟨b1, 0, none⟩))] ?_ ?_
    · have hb1v : (Value.slice A0 L.length c0).ownBlock ≠ some b1 := fun he => by
        have := h.lt _ (.inr he); have := hN1.at_; omega
      refine zc_cond rfl (fun ht => ?_) (fun hf => ?_)
      · have h3 : 3 ≤ manyF L ⟨nd, nm, l⟩ (beginN L L.length) := of_decide_eq_true ht
        obtain ⟨hf0, hf1⟩ := firstF_lt L ⟨nd, nm, l⟩ _ (beginN L L.length) rfl hk (by omega)
        obtain ⟨j, hj⟩ := Int.eq_ofNat_of_zero_le hf0
        rw [hj] at hf1 ⊢
        refine zc_region ?_
        iterate 2 (refine zl_pureL rfl ?_)
        refine zl_call (by first | exact want_none | exact want_L rfl) rfl (by decide) rfl (drop_calls h2 hl j (by omega)) ?_
        rintro _ w5 ⟨rfl, v5, hI5, hW5⟩
        refine ⟨_, rfl, ?_⟩
        refine zl_nil ?_
        refine zk_mid ⟨v5, _, hI5, by unfold dropM; simp; omega, by rw [if_pos h3]; simp, Wr.pre hCw hW5, hb2.chg hW5.chg ?_, ?_, ?_⟩ ⟨rfl, rfl, trivial⟩
        · rintro (he | he)
          · exact hb2.ne hg2 (by decide) he
          · exact hb1v he
        · exact (ha.no hCw).keep (fun b cells hb => hb.chg hW5.chg (h2.foot47 (by decide) b cells hb))
        · intro he
          rcases hW5.row with h6 | ⟨k, h6, h7⟩
          · exact hb1v (h6 ▸ he)
          · rw [he] at h6; cases h6; have := hb2.lt; omega
      · have h3 : ¬ 3 ≤ manyF L ⟨nd, nm, l⟩ (beginN L L.length) := of_decide_eq_false hf
        refine zc_skip ?_
        exact zk_mid ⟨_, _, h2, hl, by rw [if_neg h3], Wr.of_no hCw _ _, hb2, ha.no hCw, hb1v⟩ ⟨rfl, rfl, trivial⟩
    rintro w4 ⟨v4, M, hI4, hMl, hM, hW4, hb4, ha4, hvb⟩
    obtain ⟨A4, c4, hv4, hc4⟩ := hI4.form
    subst hv4
    have hne4 := hI4.ne (by decide)
    obtain ⟨hg4, ms, hO4, hA4⟩ := hI4
    have hlen := hA4.length
    refine zc_draw [11] (fun w' => Blk w' g 91 [.slice A4 M.length c4] ∧ Blk w' b1 45 [.int .i64 nd, .string nm, .slice A2 l.length c2]) (.take 0 (.take 1 (.take 2 (.take 3 (.take 4 (.take 5 (.all1 6 (.all1 7 (.all1 8 (.plain 9 (.take 10 (.last 11)))))))))))) (by rfl) (by kernel_rfl) (by kernel_rfl) (fun w1 hC1 hH1 => ⟨?_, ?_⟩)
    · exact ⟨hg4.no ‹_›, hb4.no ‹_›⟩
    iterate 3 (refine zs_take rfl (zt_pure rfl ?_))
    refine zs_rdL rfl want_none rfl (by decide) (fun _ hS => r_fa rfl) ?_
    refine zs_rdL rfl want_none rfl (by decide) (fun _ hS => r_loadB rfl hS.1 (by rfl)) ?_
    refine zs_rdL rfl want_none rfl (by decide) (fun _ hS => r_loadAB rfl hS.2 (by rfl)) ?_
    refine zs_call rfl (by first | exact want_none | exact want_L rfl) rfl (by decide) rfl (own_calls (ha4.no ‹_›) hal) ?_
    rintro _ w6 ⟨v6, rfl, ha6, hn6, hC6⟩
    obtain ⟨A6, c6, hv6, hc6⟩ := ha6.form
    subst hv6
    have hC6 := hC1.no hC6
    refine ⟨_, rfl, ⟨hg4.no hC6, hb4.no hC6⟩, ?_⟩
    refine zs_bs1 rfl (by first | exact want_none | exact want_L rfl) (by decide) rfl (by rfl) (by rfl) (by decide) (by decide) (fun w7 b7 hN7 => ?_)
    have hC7 := hC6.new hN7
    refine ⟨⟨hg4.no hC7, hb4.no hC7⟩, ?_⟩
    have hO7 := hO4.no hC7
    rw [hlen] at hO7
    have hx : MR w6 ⟨nd, nm, .slice A6 l.length c6⟩ ⟨nd, nm, l⟩ := ⟨rfl, rfl, ha6⟩
    refine zs_appendO rfl (by rfl) (by decide) (by first | exact want_none | exact want_L rfl) (by decide) rfl rfl hO7 (RdS.mark hx hN7) (by omega) (by omega) (fun v8 w8 hO8 hC8 hr8 => ?_)
    have hg8 := (hg4.no hC7).chg hC8 hne4
    have hb8 := (hb4.no hC7).chg hC8 hvb
    refine ⟨⟨hg8, hb8⟩, ?_⟩
    have hK := (K47.no hC7).trans (K47.own hO7 (by decide) hC8)
    have hK6 := (K47.no hN7.chg).trans (K47.own hO7 (by decide) hC8)
    have hne8 : v8.ownBlock ≠ some g := fun he => hO8.ne he hg8 (by decide) rfl
    obtain ⟨A8, c8, rfl, hc8⟩ := hO8.rd.form
    refine zs_plainL rfl rfl ?_
    refine zs_rdL rfl want_none rfl (by decide) (fun _ hS => r_fa rfl) ?_
    refine zs_storeL rfl (by first | exact want_none | exact want_L rfl) rfl rfl rfl (by assumption) (by first | exact Nat.le_refl _ | simp [Value.cells]) (by simp [Value.cells, Value.oneCell']) (fun w9 hU9 => ?_)
    skip
    have hW9 : Wr w4 w9 g (.slice A4 M.length c4) (.slice A8 (M.length + 1) c8) := ⟨((hC7.mono (fun _ _ h => h.elim)).trans hC8 (fun _ _ h => .inr h)).trans hU9.chg (fun _ _ h => .inl h), hr8.imp id (fun ⟨k, h1, h2⟩ => ⟨k, h1, by have := hC7.size; omega⟩)⟩
    refine zk_ret0 (.inl rfl) rfl ⟨rfl, _, ?_, hW4.trans hW9⟩
    unfold pushM
    rw [← hM]
    refine IsM.mk' (ms := ms ++ [⟨nd, nm, .slice A6 l.length c6⟩]) hU9.blk (hO8.chg hU9.chg (fun k hk he => hne8 (he ▸ hk))) (by simp; omega) (encM_app _ _).symm ?_
    exact All2.append (all2_keep hA4 (hK.trans (K47.upd hU9 (by decide)))) (All2.one (hx.keep (hK6.trans (K47.upd hU9 (by decide)))))
end Go.Proofs.Yteeibieaapiomaa.M
/- MSet -/
/- Set. -/
namespace Go.Proofs.Yteeibieaapiomaa.M
open Go Go.Z Go.Proofs
set_option linter.unusedVariables false
theorem IsM.setAt {w : World} {st g b c : Nat} {L : List Mark} {m : MV} {x : Mark} (h : IsM w st g (.slice (some ⟨b, 0, none⟩) L.length c) L) (hst : st ≠ 45) (hx : MR w m x) (i : Nat) (hi : i < L.length) :
    ∃ cells : List Value, Blk w b 45 cells ∧ i * 3 + 3 ≤ cells.length ∧ ∀ w', Upd w w' b 45 (Z.lay cells (i * 3) (mval m).cells.toList) → IsM w' st g (.slice (some ⟨b, 0, none⟩) L.length c) (L.set i x) := by
  have hne := h.ne hst
  obtain ⟨hg, ms, hO, hA⟩ := h
  have hlen := hA.length
  have hel := encM_len ms
  have hone : ∀ u ∈ encM [m], u.oneCell' = true := by
    obtain ⟨A, c, hv, _⟩ := hx.2.2.form
    intro u hu
    simp only [encM, List.mem_cons, List.not_mem_nil, or_false] at hu
    rcases hu with rfl | rfl | rfl
    · rfl
    · rfl
    · rw [hv]; rfl
  rw [hlen] at hO
  obtain ⟨cells, hB, hfit, hpre, hnew⟩ := hO.lay (o := i * 3) (vs := encM [m]) (by rw [encM_len]; simp; omega) hone
  rw [encM_len] at hfit
  refine ⟨cells, hB, by simpa using hfit, fun w' hU => ?_⟩
  have hO2 := hnew w' hU
  refine IsM.mk' (ms := ms.set i m) (hg.chg hU.chg (fun he => hne (by rw [he]; rfl))) hO2 (by simp; omega) ?_ ?_
  · rw [List.set_eq_take_append_cons_drop, if_pos (by omega), List.append_cons, encM_app, encM_app, encM_take, encM_drop]
    unfold Z.lay
    rw [encM_len]
    simp [Nat.add_mul]
  · have hK := K47.upd hU (by decide)
    rw [List.set_eq_take_append_cons_drop, if_pos (by omega), List.set_eq_take_append_cons_drop, if_pos hi]
    have hA2 := all2_keep hA hK
    exact (hA2.take i).append ⟨hx.keep hK, hA2.drop (i + 1)⟩
/-- a copy within the row: q elements from k on to j on -/
theorem IsM.shift {w : World} {st g b c : Nat} {L : List Mark} (h : IsM w st g (.slice (some ⟨b, 0, none⟩) L.length c) L) (hst : st ≠ 45) (j k q : Nat) (hj : j + q ≤ L.length) (hk : k + q ≤ L.length) :
    ∃ enc cells : List Value, RdS w 45 3 (.slice (some ⟨b, 0, none⟩) L.length c) L.length enc ∧ Blk w b 45 cells ∧ j * 3 + q * 3 ≤ cells.length ∧ ∀ w', Upd w w' b 45 (Z.lay cells (j * 3) ((enc.drop (k * 3)).take (q * 3))) →
      IsM w' st g (.slice (some ⟨b, 0, none⟩) L.length c) (L.take j ++ (L.drop k).take q ++ L.drop (j + q)) := by
  have hne := h.ne hst
  obtain ⟨hg, ms, hO, hA⟩ := h
  have hlen := hA.length
  have hel := encM_len ms
  rw [hlen] at hO
  have hvl : (((encM ms).drop (k * 3)).take (q * 3)).length = q * 3 := by rw [List.length_take, List.length_drop]; omega
  obtain ⟨cells, hB, hfit, hpre, hnew⟩ := hO.lay (o := j * 3) (vs := ((encM ms).drop (k * 3)).take (q * 3)) (by omega) (fun u hu => hO.2 u (List.mem_of_mem_drop (List.mem_of_mem_take hu)))
  refine ⟨encM ms, cells, hO.rd, hB, by omega, fun w' hU => ?_⟩
  have hO2 := hnew w' hU
  refine IsM.mk' (ms := ms.take j ++ (ms.drop k).take q ++ ms.drop (j + q)) (hg.chg hU.chg (fun he => hne (by rw [he]; rfl))) hO2 (by simp; omega) ?_ ?_
  · unfold Z.lay
    rw [encM_app, encM_app, encM_take, encM_take, encM_drop, encM_drop, hvl, Nat.add_mul]
  · have hA2 := all2_keep hA (K47.upd hU (by decide))
    exact ((hA2.take j).append ((hA2.drop k).take q)).append (hA2.drop (j + q))
set_option maxHeartbeats 4000000 in
theorem set_calls {w : World} {g : Nat} {v av : Value} {L : List Mark} {nd : Int} {nm : ByteArray} {l : List At} (h : IsM w 91 g v L) (hl : L.length ≤ 100000) (ha : AttrS w av l) (hal : l.length ≤ 100000) (i : Nat) (hi : i < L.length) :
    Calls Try.prog 65 [Value.pointer (some ⟨g, 0, none⟩), .int .i64 i, .agg #[.int .i64 nd, .string nm, av]].toArray w fun e w' => e = .returned (.bool true) ∧ ∃ v', IsM w' 91 g v' (L.set i ⟨nd, nm, l⟩) ∧ Wr w w' g v v' := by
  obtain ⟨b, c, A0, hv, _⟩ := h.at_ i hi
  subst hv
  obtain ⟨A2, c2, hv2, hc2⟩ := ha.form
  subst hv2
  refine calls_zc (n := 26) (f := 65) (fn := Try.f65) Try.func65 rfl rfl (by simp) ?_
  refine zc_seq ?_
  refine zc_region ?_
  refine z_box (by first | exact want_none | exact want_L rfl) (by decide) rfl (fun w1 b1 hN1 => ?_)
  have hb1 : Blk w1 b1 45 [.int .i64 nd, .string nm, .slice A2 l.length c2] := hN1.blk
  have hg1 := (h.no hN1.chg).1
  refine zl_pureL rfl ?_
  refine zl_nil ?_
  refine zk_seq ?_
  iterate 2 (refine zc_seq ?_)
  refine zc_region ?_
  refine zl_pureL rfl ?_
  refine z_cmpB (r := false) want_none (by decide) rfl rfl rfl (iff_of_false Bool.false_ne_true (by omega)) ?_
  iterate 4 (refine zl_pureL rfl ?_)
  refine z_fa (want_L rfl) (by decide) rfl ?_
  refine z_loadB (want_L rfl) (by decide) rfl (by assumption) (by rfl) ?_
  refine z_len (want_L rfl) (by decide) rfl ?_
  refine z_cmpB (r := false) (want_L rfl) (by decide) rfl rfl rfl (iff_of_false Bool.false_ne_true (by omega)) ?_
  refine zl_pureL rfl ?_
  refine zl_nil ?_
  refine zk_seq ?_
  refine zc_false rfl ?_
  refine zc_skip ?_
  refine zk_seq ?_
  refine zc_seq ?_
  refine zc_draw [8] (fun w' => Blk w' g 91 [.slice (some ⟨b, 0, none⟩) L.length c] ∧ Blk w' b1 45 [.int .i64 nd, .string nm, .slice A2 l.length c2]) (.take 0 (.take 1 (.take 2 (.take 3 (.take 4 (.take 5 (.all1 6 (.take 7 (.last 8))))))))) (by rfl) (by kernel_rfl) (by kernel_rfl) (fun w1 hC1 hH1 => ⟨?_, ?_⟩)
  · exact ⟨hg1.no ‹_›, hb1.no ‹_›⟩
  have hC2 := hN1.chg.no hC1
  iterate 2 (refine zs_take rfl (zt_pure rfl ?_))
  refine zs_rdL rfl want_none rfl (by decide) (fun _ hS => r_fa rfl) ?_
  refine zs_rdL rfl want_none rfl (by decide) (fun _ hS => r_loadB rfl hS.1 (by rfl)) ?_
  refine zs_take rfl (zt_pure rfl ?_)
  refine zs_rdL rfl want_none rfl (by decide) (fun _ hS => r_loadAB rfl hS.2 (by rfl)) ?_
  refine zs_call rfl (by first | exact want_none | exact want_L rfl) rfl (by decide) rfl (own_calls (ha.no hC2) hal) ?_
  rintro _ w3 ⟨v3, rfl, ha3, hn3, hC3⟩
  obtain ⟨A3, c3, hv3, hc3⟩ := ha3.form
  subst hv3
  have hC13 := hC1.no hC3
  have hCw := hC2.no hC3
  obtain ⟨cells, hB, hfit, hset⟩ := (h.no hCw).setAt (by decide) (m := ⟨nd, nm, _⟩) (x := ⟨nd, nm, l⟩) ⟨rfl, rfl, ha3⟩ i hi
  refine ⟨_, rfl, ⟨hg1.no hC13, hb1.no hC13⟩, ?_⟩
  refine zs_rdL rfl want_none rfl (by decide) (fun _ hS => r_ia rfl rfl (by omega) (by omega)) ?_
  refine zs_storeL (o := i * 3) rfl (by first | exact want_none | exact want_L rfl) (ev_ptr rfl (by omega)) rfl rfl hB hfit (by simp [Value.cells, Value.oneCell']) (fun w4 hU4 => ?_)
  refine zk_seq ?_
  refine zc_seq ?_
  refine zc_region ?_
  refine zl_pureL rfl ?_
  refine zl_nil ?_
  refine zk_seq ?_
  refine zc_ret ?_
  refine zk_ret1 (.inr rfl) rfl rfl ⟨rfl, _, hset w4 hU4, Wr.pre hCw ⟨hU4.chg.mono (fun _ _ h => .inr (by rw [h]; rfl)), .inl rfl⟩⟩
end Go.Proofs.Yteeibieaapiomaa.M
/- MAll -/
/- At, All. -/
namespace Go.Proofs.Yteeibieaapiomaa.M
open Go Go.Z Go.Proofs
set_option linter.unusedVariables false
theorem at_calls {w : World} {g : Nat} {v : Value} {L : List Mark} (h : IsM w 91 g v L) (hl : L.length ≤ 100000) (hal : ∀ m ∈ L, m.attrs.length ≤ 100000) (i : Nat) (hi : i < L.length) :
    Calls Try.prog 64 [Value.pointer (some ⟨g, 0, none⟩), .int .i64 i].toArray w fun e w' => ∃ av, e = .returned (.tuple #[.agg #[.int .i64 (L.getD i Mark.z).node, .string (L.getD i Mark.z).name, av], .bool true]) ∧ AttrS w' av (L.getD i Mark.z).attrs ∧ NewS w.heap.size av ∧ Chg w w' No := by
  obtain ⟨b, c, A0, hv, e0, e1, e2, ha⟩ := h.at_ i hi
  subst hv
  obtain ⟨A2, c2, rfl, hc2⟩ := ha.form
  have hg := h.1
  refine calls_zc (n := 26) (f := 64) (fn := Try.f64) Try.func64 rfl rfl (by simp) ?_
  refine zc_seq ?_
  refine zc_region ?_
  refine z_alloc (by first | exact want_none | exact want_L rfl) (by decide) (fun w1 b1 hN1 => ?_)
  have hb1 : Blk w1 b1 45 [.int .i64 0, .string ⟨#[]⟩, .slice none 0 0] := hN1.blk
  have hg1 := hg.no hN1.chg
  refine zl_pureL rfl ?_
  refine zl_nil ?_
  refine zk_seq ?_
  iterate 2 (refine zc_seq ?_)
  refine zc_region ?_
  refine zl_pureL rfl ?_
  refine z_cmpB (r := false) want_none (by decide) rfl rfl rfl (iff_of_false Bool.false_ne_true (by omega)) ?_
  iterate 4 (refine zl_pureL rfl ?_)
  refine z_fa (want_L rfl) (by decide) rfl ?_
  refine z_loadB (want_L rfl) (by decide) rfl (by assumption) (by rfl) ?_
  refine z_len (want_L rfl) (by decide) rfl ?_
  refine z_cmpB (r := false) (want_L rfl) (by decide) rfl rfl rfl (iff_of_false Bool.false_ne_true (by omega)) ?_
  refine zl_pureL rfl ?_
  refine zl_nil ?_
  refine zk_seq ?_
  refine zc_false rfl ?_
  refine zc_skip ?_
  refine zk_seq ?_
  refine zc_seq ?_
  refine zc_region ?_
  iterate 2 (refine zl_pureL rfl ?_)
  refine z_fa want_none (by decide) rfl ?_
  refine z_loadB want_none (by decide) rfl (by assumption) (by rfl) ?_
  refine zl_pureL rfl ?_
  refine z_ia want_none (by decide) rfl rfl (by omega) (by omega) ?_
  refine z_loadA (by rfl) (by first | exact want_none | exact want_L rfl) (by decide) rfl (agg3 (cell_no hN1.chg e0) (cell_no hN1.chg e1) (cell_no hN1.chg e2) (by omega)) ?_
  refine zl_call (by first | exact want_none | exact want_L rfl) rfl (by decide) rfl (own_calls (ha.no hN1.chg) (hal _ (getD_mem hi))) ?_
  rintro _ w3 ⟨v3, rfl, ha3, hn3, hC3⟩
  refine ⟨_, rfl, ?_⟩
  obtain ⟨A3, c3, rfl, hc3⟩ := ha3.form
  have hb3 := hb1.no hC3
  refine z_store (by first | exact want_none | exact want_L rfl) rfl rfl rfl (by assumption) (by first | exact Nat.le_refl _ | simp [Value.cells]) (by simp [Value.cells, Value.oneCell']) (fun w4 hU4 => ?_)
  have hb4 : Blk w4 b1 45 [.int .i64 (L.getD i Mark.z).node, .string (L.getD i Mark.z).name, .slice A3 (L.getD i Mark.z).attrs.length c3] := hU4.blk
  refine zl_pureL rfl ?_
  refine zl_nil ?_
  refine zk_seq ?_
  refine zc_ret ?_
  refine zk_retCT (.inr rfl) rfl rfl rfl hb4 rfl ⟨_, rfl, ha3.upd hU4 (by decide), fun k hk => by have := hn3 k hk; have := hN1.size; omega, (hN1.chg.no hC3).upd hU4 (hN1.ge (Chg.refl _ No))⟩
theorem at_out {w : World} {g : Nat} {v : Value} {L : List Mark} (h : IsM w 91 g v L) (hl : L.length ≤ 100000) (i : Int) (hi : i < 0 ∨ (L.length : Int) ≤ i) :
    Calls Try.prog 64 [Value.pointer (some ⟨g, 0, none⟩), .int .i64 i].toArray w fun e w' => e = .returned (.tuple #[.agg #[.int .i64 0, .string ⟨#[]⟩, .slice none 0 0], .bool false]) ∧ Chg w w' No := by
  obtain ⟨A, c, rfl, hc⟩ := h.form
  have hg := h.1
  refine calls_zc (n := 26) (f := 64) (fn := Try.f64) Try.func64 rfl rfl (by simp) ?_
  refine zc_seq ?_
  refine zc_region ?_
  refine z_alloc (by first | exact want_none | exact want_L rfl) (by decide) (fun w1 b1 hN1 => ?_)
  have hb1 : Blk w1 b1 45 [.int .i64 0, .string ⟨#[]⟩, .slice none 0 0] := hN1.blk
  have hg1 := hg.no hN1.chg
  refine zl_pureL rfl ?_
  refine zl_nil ?_
  refine zk_seq ?_
  iterate 2 (refine zc_seq ?_)
  refine zc_region ?_
  refine zl_pureL rfl ?_
  by_cases h0 : i < 0
  · refine z_cmpB (r := true) want_none (by decide) rfl rfl rfl (iff_of_true rfl (by omega)) ?_
    iterate 4 (refine zl_pureL rfl ?_)
    iterate 4 (refine zl_skip rfl ?_)
    refine zl_pureL rfl ?_
    refine zl_nil ?_
    refine zk_seq ?_
    refine zc_true rfl ?_
    refine zc_seq ?_
    refine zc_region ?_
    refine z_buildE #[.int .i64 0, .string ⟨#[]⟩, .slice none 0 0] (by first | exact want_none | exact want_L rfl) (by decide) rfl (by kernel_rfl) ?_
    refine z_store (by first | exact want_none | exact want_L rfl) rfl rfl rfl (by assumption) (by first | exact Nat.le_refl _ | simp [Value.cells]) (by simp [Value.cells, Value.oneCell']) (fun w4 hU4 => ?_)
    have hb4 : Blk w4 b1 45 [.int .i64 0, .string ⟨#[]⟩, .slice none 0 0] := hU4.blk
    refine zl_pureL rfl ?_
    refine zl_nil ?_
    refine zk_seq ?_
    refine zc_ret ?_
    refine zk_ret_then ?_
    exact zk_retCT (.inr rfl) rfl rfl rfl hb4 rfl ⟨rfl, hN1.chg.upd hU4 (hN1.ge (Chg.refl _ No))⟩
  · refine z_cmpB (r := false) want_none (by decide) rfl rfl rfl (iff_of_false Bool.false_ne_true (by omega)) ?_
    iterate 4 (refine zl_pureL rfl ?_)
    refine z_fa (want_L rfl) (by decide) rfl ?_
    refine z_loadB (want_L rfl) (by decide) rfl (by assumption) (by rfl) ?_
    refine z_len (want_L rfl) (by decide) rfl ?_
    refine z_cmpB (r := true) (want_L rfl) (by decide) rfl rfl rfl (iff_of_true rfl (by omega)) ?_
    refine zl_pureL rfl ?_
    refine zl_nil ?_
    refine zk_seq ?_
    refine zc_true rfl ?_
    refine zc_seq ?_
    refine zc_region ?_
    refine z_buildE #[.int .i64 0, .string ⟨#[]⟩, .slice none 0 0] (by first | exact want_none | exact want_L rfl) (by decide) rfl (by kernel_rfl) ?_
    refine z_store (by first | exact want_none | exact want_L rfl) rfl rfl rfl (by assumption) (by first | exact Nat.le_refl _ | simp [Value.cells]) (by simp [Value.cells, Value.oneCell']) (fun w4 hU4 => ?_)
    have hb4 : Blk w4 b1 45 [.int .i64 0, .string ⟨#[]⟩, .slice none 0 0] := hU4.blk
    refine zl_pureL rfl ?_
    refine zl_nil ?_
    refine zk_seq ?_
    refine zc_ret ?_
    refine zk_ret_then ?_
    exact zk_retCT (.inr rfl) rfl rfl rfl hb4 rfl ⟨rfl, hN1.chg.upd hU4 (hN1.ge (Chg.refl _ No))⟩
/-- a list of marks that is told: rows made since a heap of size B -/
def Told (w : World) (B : Nat) (vo : Value) (L : List Mark) : Prop := ∃ ms, Own w 45 3 vo ms.length (encM ms) ∧ All2 (MR w) ms L ∧ NewS B vo ∧ ∀ m ∈ ms, NewS B m.attrs
theorem Told.len {w : World} {B : Nat} {vo : Value} {L : List Mark} (h : Told w B vo L) : ∃ A c, vo = .slice A L.length c ∧ L.length ≤ c := by
  obtain ⟨ms, h1, h2, _⟩ := h
  have := h1.rd.form
  rwa [h2.length] at this
/-- it stays, as long as what is written is older, or of another type -/
theorem Told.chg {w w' : World} {B : Nat} {vo : Value} {L : List Mark} {S : Nat → Prop} (h : Told w B vo L) (hc : Chg w w' S) (hS : ∀ k, S k → k < B) : Told w' B vo L := by
  obtain ⟨ms, h1, h2, h3, h4⟩ := h
  refine ⟨ms, h1.chg hc (fun k hk hs => by have := h3 k hk; have := hS k hs; omega), ?_, h3, h4⟩
  have : ∀ (ms : List MV) (L : List Mark), All2 (MR w) ms L → (∀ m ∈ ms, NewS B m.attrs) → All2 (MR w') ms L := by
    intro ms
    induction ms with
    | nil => intro L h _; cases L <;> simp_all [All2]
    | cons m ms ih =>
      intro L h hN
      cases L with
      | nil => simp [All2] at h
      | cons x L =>
        obtain ⟨⟨g1, g2, g3⟩, h5⟩ := h
        refine ⟨⟨g1, g2, ?_⟩, ih L h5 (fun m hm => hN m (List.mem_cons_of_mem _ hm))⟩
        obtain ⟨a1, a2, A, c, a3, a4, a5⟩ := g3
        refine ⟨a1, a2, A, c, a3, a4, fun hm => ?_⟩
        obtain ⟨b, o, cells, a6, a7, a8⟩ := a5 hm
        refine ⟨b, o, cells, a6, a7.chg hc (fun hs => ?_), a8⟩
        have h6 := hN m (List.mem_cons_self ..) b (by rw [a3, a6]; rfl)
        have := hS b hs; omega
  exact this ms L h2 h4
theorem Told.no {w w' : World} {B : Nat} {vo : Value} {L : List Mark} (h : Told w B vo L) (hc : Chg w w' No) : Told w' B vo L := h.chg hc (fun _ h => h.elim)
set_option maxHeartbeats 1000000 in
theorem all_calls {w : World} {g : Nat} {v : Value} {L : List Mark} (h : IsM w 91 g v L) (hl : L.length ≤ 100000) (hal : ∀ m ∈ L, m.attrs.length ≤ 100000) :
    Calls Try.prog 29 [Value.pointer (some ⟨g, 0, none⟩)].toArray w fun e w' => ∃ vo, e = .returned vo ∧ Told w' w.heap.size vo L ∧ Chg w w' No := by
  obtain ⟨A, c, rfl, hc⟩ := h.form
  have hg := h.1
  refine calls_zc (n := 22) (f := 29) (fn := Try.f29) Try.func29 rfl rfl (by simp) ?_
  refine zc_seq ?_
  refine zc_region ?_
  refine zl_pureL rfl ?_
  refine zl_nil ?_
  refine zk_seq ?_
  refine zc_seq ?_
  refine zc_region ?_
  refine zl_pureL rfl ?_
  refine zl_nil ?_
  refine zk_seq ?_
  iterate 2 (refine zc_seq ?_)
  refine zc_region ?_
  iterate 2 (refine zl_pureL rfl ?_)
  refine z_fa want_none (by decide) rfl ?_
  refine z_loadB want_none (by decide) rfl (by assumption) (by rfl) ?_
  refine z_len want_none (by decide) rfl ?_
  refine zl_pureL rfl ?_
  refine zl_nil ?_
  refine zk_seq ?_
  refine zc_block ?_
  refine zc_loopW (ι := Nat × Value) (fun k u => [(3, k.2), (9, .slice A L.length c), (10, .int .i64 L.length), (11, .int .i64 k.1)])
    (fun k u => k.1 ≤ L.length ∧ Chg w u No ∧ Told u w.heap.size k.2 (L.take k.1)) (fun k u => L.length - k.1) (0, .slice none 0 0) ⟨Nat.zero_le _, Chg.refl _ _, [], Own.nil, trivial, ?_, ?_⟩ ?_ ?_
  · intro k hk; cases hk
  · intro m hm; cases hm
  · exact ⟨rfl, rfl, rfl, rfl, trivial⟩
  rintro ⟨k, vo⟩ w1 ⟨hk, hC, hT⟩
  dsimp only at hk hC hT
  by_cases hlt : k < L.length
  · obtain ⟨b, c', A', hv, e0, e1, e2, ha⟩ := (h.no hC).at_ k hlt
    cases hv
    obtain ⟨A2, c2, rfl, _⟩ := ha.form
    refine zc_seq ?_
    refine zc_region ?_
    refine z_cmpB (r := true) want_none (by decide) rfl rfl rfl (iff_of_true rfl (by omega)) ?_
    refine zl_nil ?_
    refine zk_seq ?_
    refine zc_seq ?_
    refine zc_true rfl ?_
    refine zc_skip ?_
    refine zk_seq ?_
    refine zc_seq ?_
    refine zc_block ?_
    refine zc_seq ?_
    refine zc_region ?_
    refine z_ia want_none (by decide) rfl rfl (by omega) (by omega) ?_
    refine z_loadA (by rfl) (by first | exact want_none | exact want_L rfl) (by decide) rfl (agg3 e0 e1 e2 (by omega)) ?_
    refine z_alloc (by first | exact want_none | exact want_L rfl) (by decide) (fun w2 b2 hN => ?_)
    have hNb := hN.blk
    skip
    refine z_store (by first | exact want_none | exact want_L rfl) rfl rfl rfl (by assumption) (by first | exact Nat.le_refl _ | simp [Value.cells]) (by simp [Value.cells, Value.oneCell']) (fun w3 hU => ?_)
    have hC3 := (hC.new hN).upd hU (hN.ge hC)
    have hC13 := hN.chg.upd hU (hN.ge (Chg.refl _ No))
    have hb2 : Blk w3 b2 45 [.int .i64 (L.getD k Mark.z).node, .string (L.getD k Mark.z).name, .slice A2 (L.getD k Mark.z).attrs.length c2] := hU.blk
    refine zl_nil ?_
    refine zk_seq ?_
    refine zc_region ?_
    refine zl_pureL rfl ?_
    refine z_loadAB want_none (by decide) rfl (by assumption) (by rfl) ?_
    refine zl_call (by first | exact want_none | exact want_L rfl) rfl (by decide) rfl (own_calls (ha.no hC13) (hal _ (getD_mem hlt))) ?_
    rintro _ w4 ⟨v4, rfl, ha4, hn4, hC4⟩
    refine ⟨_, rfl, ?_⟩
    obtain ⟨A4, c4, rfl, hc4⟩ := ha4.form
    refine z_bs1 (by first | exact want_none | exact want_L rfl) (by decide) rfl (by rfl) (by rfl) (by decide) (by decide) (fun w5 b5 hN5 => ?_)
    have hC15 := (hC13.no hC4).new hN5
    obtain ⟨ms, hO, hA, hn1, hn2⟩ := hT.no hC15
    have hlen := hA.length
    have hx : MR w4 ⟨(L.getD k Mark.z).node, (L.getD k Mark.z).name, _⟩ (L.getD k Mark.z) := ⟨rfl, rfl, ha4⟩
    have hkl : (L.take k).length = k := by simp; omega
    refine z_appendO (by rfl) (by decide) (by first | exact want_none | exact want_L rfl) (by decide) rfl rfl hO (RdS.mark hx hN5) (by omega) (by omega) (fun v6 w6 hO6 hC6 hr6 => ?_)
    have hC16 : Chg w w6 No := (hC.no hC15).trans hC6 (fun i hi he => by have := hn1 i he; omega)
    have hK := (K47.own hO (by decide) hC6)
    refine zl_pureL rfl ?_
    refine zl_nil ?_
    refine zk_norm_block ?_
    refine zk_seq ?_
    refine zc_region ?_
    refine z_add want_none (by decide) rfl rfl (by omega) (by omega) ?_
    refine zl_pureL rfl ?_
    refine zl_nil ?_
    refine zk_loopW (k + 1, v6) ⟨by omega, hC16, ms ++ [⟨(L.getD k Mark.z).node, (L.getD k Mark.z).name, .slice A4 (L.getD k Mark.z).attrs.length c4⟩], ?_, ?_, ?_, ?_⟩ (by simp; omega) ⟨rfl, rfl, rfl, get_int rfl (by simp), trivial⟩
    · rw [encM_app]; simpa using hO6
    · rw [List.take_succ_eq_append_getElem hlt]
      refine All2.append (all2_keep hA hK) (All2.one ?_)
      have := hx.keep ((K47.no hN5.chg).trans hK)
      rw [List.getD_eq_getElem?_getD, List.getElem?_eq_getElem hlt] at this
      simpa [List.getElem?_eq_getElem hlt] using this
    · intro j hj
      rcases hr6 with h1 | ⟨q, h1, h2⟩
      · exact hn1 j (h1 ▸ hj)
      · rw [hj] at h1; cases h1; have := (hC.no hC15).size; omega
    · intro m hm
      rcases List.mem_append.1 hm with hm | hm
      · exact hn2 m hm
      · simp only [List.mem_singleton] at hm; subst hm
        intro j hj; have := hn4 j hj; have := hC3.size; omega
  · obtain rfl : k = L.length := by omega
    refine zc_seq ?_
    refine zc_region ?_
    refine z_cmpB (r := false) want_none (by decide) rfl rfl rfl (iff_of_false Bool.false_ne_true (by omega)) ?_
    refine zl_nil ?_
    refine zk_seq ?_
    refine zc_seq ?_
    refine zc_false rfl ?_
    refine zc_exit ?_
    iterate 2 (refine zk_exit_then ?_)
    refine zk_exit_block ?_
    refine zk_seq ?_
    refine zc_seq ?_
    refine zc_region ?_
    iterate 2 (refine zl_pureL rfl ?_)
    refine zl_nil ?_
    refine zk_seq ?_
    refine zc_ret ?_
    rw [List.take_length] at hT
    exact zk_ret1 (.inr rfl) rfl rfl ⟨_, rfl, hT, hC⟩
end Go.Proofs.Yteeibieaapiomaa.M
/- MName -/

/- Names, attributes of a number; rows of marks held against each other. -/
namespace Go.Proofs.Yteeibieaapiomaa.M
open Go Go.Z Go.Proofs
set_option linter.unusedVariables false
theorem tmod_emod (a : Int) (n : Nat) (hn : 0 < n) : (0 ≤ a.tmod n ∧ a.tmod n = a % n ∧ a.tmod n < n) ∨ (a.tmod n < 0 ∧ a.tmod n + n = a % n ∧ -(n : Int) < a.tmod n) := by
  have h1 := Int.emod_nonneg a (show (n : Int) ≠ 0 by omega)
  have h2 := Int.emod_lt_of_pos a (show (0 : Int) < n by omega)
  have h3 := Int.tmod_lt_of_pos a (show (0 : Int) < n by omega)
  have h4 : -(n : Int) < a.tmod n := by
    have := Int.tmod_lt_of_pos (-a) (show (0 : Int) < n by omega)
    rw [Int.neg_tmod] at this; omega
  have h5 : ((n : Int)) ∣ (a % n - a.tmod n) := by
    have e1 := Int.emod_add_mul_ediv a n
    have e2 := Int.tmod_add_mul_tdiv a n
    refine ⟨a.tdiv n - a / n, ?_⟩
    rw [Int.mul_sub]; omega
  obtain ⟨q, hq⟩ := h5
  have hq0 : -1 < q := by
    apply Int.lt_of_not_ge; intro hge
    have : (n : Int) * q ≤ (n : Int) * (-1) := Int.mul_le_mul_of_nonneg_left hge (by omega)
    omega
  have hq1 : q < 2 := by
    apply Int.lt_of_not_ge; intro hge
    have : (n : Int) * 2 ≤ (n : Int) * q := Int.mul_le_mul_of_nonneg_left hge (by omega)
    omega
  have : q = 0 ∨ q = 1 := by omega
  rcases this with rfl | rfl
  · left; omega
  · right; omega
theorem within_calls {w : World} {a : Int} {n : Nat} (hn : 0 < n) (hn2 : n ≤ 1000000000) :
    Calls Try.prog 56 [.int .i64 a, .int .i64 n].toArray w fun e w' => e = .returned (.int .i64 (a % n)) ∧ w' = w := by
  have hm := tmod_emod a n hn
  refine calls_zc (n := 15) (f := 56) (fn := Try.f56) Try.func56 rfl rfl (by simp) ?_
  refine zc_seq ?_
  refine zc_region ?_
  refine zl_pureL rfl ?_
  refine zl_nil ?_
  refine zk_seq ?_
  refine zc_seq ?_
  refine zc_region ?_
  iterate 2 (refine zl_pureL rfl ?_)
  refine z_rem (by first | exact want_none | exact want_L rfl) (by decide) rfl rfl (by omega) ?_
  refine zl_pureL rfl ?_
  refine zl_nil ?_
  refine zk_seq ?_
  iterate 2 (refine zc_seq ?_)
  refine zc_region ?_
  refine zl_pureL rfl ?_
  rcases hm with ⟨h1, h2, h3⟩ | ⟨h1, h2, h3⟩
  · refine z_cmpB (r := false) want_none (by decide) rfl rfl rfl (iff_of_false Bool.false_ne_true (by omega)) ?_
    refine zl_nil ?_
    refine zk_seq ?_
    refine zc_false rfl ?_
    refine zc_skip ?_
    refine zk_seq ?_
    refine zc_seq ?_
    refine zc_region ?_
    iterate 2 (refine zl_pureL rfl ?_)
    refine zl_nil ?_
    refine zk_seq ?_
    refine zc_ret ?_
    exact zk_ret1 (.inr rfl) rfl rfl ⟨by rw [h2], rfl⟩
  · refine z_cmpB (r := true) want_none (by decide) rfl rfl rfl (iff_of_true rfl (by omega)) ?_
    refine zl_nil ?_
    refine zk_seq ?_
    refine zc_true rfl ?_
    refine zc_region ?_
    iterate 2 (refine zl_pureL rfl ?_)
    refine z_add want_none (by decide) rfl rfl (by omega) (by omega) ?_
    refine zl_pureL rfl ?_
    refine zl_nil ?_
    refine zk_seq ?_
    refine zc_seq ?_
    refine zc_region ?_
    iterate 2 (refine zl_pureL rfl ?_)
    refine zl_nil ?_
    refine zk_seq ?_
    refine zc_ret ?_
    exact zk_ret1 (.inr rfl) rfl rfl ⟨by rw [h2], rfl⟩
def nameL : List ByteArray := [⟨#[98]⟩, ⟨#[105]⟩, ⟨#[97]⟩, ⟨#[101, 109]⟩, ⟨#[110, 111, 98, 114]⟩]
def nameN (k : Int) : ByteArray := nameL.getD (k % 5).toNat ⟨#[]⟩
def cellNm : List Value := [.string ⟨#[98]⟩, .string ⟨#[105]⟩, .string ⟨#[97]⟩, .string ⟨#[101, 109]⟩, .string ⟨#[110, 111, 98, 114]⟩]
theorem cellNm_at : ∀ i, i < 5 → cellNm[i]? = some (.string (nameL.getD i ⟨#[]⟩))
  | 0, _ | 1, _ | 2, _ | 3, _ | 4, _ => rfl
theorem name_calls {w : World} (k : Int) : Calls Try.prog 24 [.int .i64 k].toArray w fun e w' => e = .returned (.string (nameN k)) ∧ Chg w w' No := by
  have h5 : 0 ≤ k % 5 ∧ k % 5 < 5 := ⟨Int.emod_nonneg _ (by decide), Int.emod_lt_of_pos _ (by decide)⟩
  obtain ⟨i, hi⟩ := Int.eq_ofNat_of_zero_le h5.1
  refine calls_zc (n := 8) (f := 24) (fn := Try.f24) Try.func24 rfl rfl (by simp) ?_
  refine zc_seq ?_
  refine zc_region ?_
  refine zl_pureL rfl ?_
  refine zl_nil ?_
  refine zk_seq ?_
  refine zc_seq ?_
  refine zc_region ?_
  refine z_bsE [.string ⟨#[98]⟩, .string ⟨#[105]⟩, .string ⟨#[97]⟩, .string ⟨#[101, 109]⟩, .string ⟨#[110, 111, 98, 114]⟩] (by first | exact want_none | exact want_L rfl) (by decide) rfl (by decide) (by decide) (by kernel_rfl) (fun w1 b1 hN1 => ?_)
  have hb1 : Blk w1 b1 9 cellNm := hN1.blk
  refine zl_pureL rfl ?_
  refine zl_call (by first | exact want_none | exact want_L rfl) rfl (by decide) rfl (within_calls (n := 5) (by decide) (by decide)) ?_
  rintro _ w2 ⟨rfl, rfl⟩
  refine ⟨_, rfl, ?_⟩
  rw [show k % (5 : Nat) = (i : Int) from hi]
  have l1 : ∀ z, z = i → w2.cell? ⟨b1, z, none⟩ = some (.string (nameN k)) := fun z hz => by
    rw [hz, hb1.cell, cellNm_at i (by omega)]; unfold nameN; rw [hi]; rfl
  refine z_ia want_none (by decide) rfl rfl (by omega) (by omega) ?_
  refine z_load1 (by first | exact want_none | exact want_L rfl) (by decide) rfl (l1 _ (by omega)) ?_
  refine zl_pureL rfl ?_
  refine zl_nil ?_
  refine zk_seq ?_
  refine zc_ret ?_
  exact zk_ret1 (.inr rfl) rfl rfl ⟨rfl, hN1.chg⟩
def sA : ByteArray := ⟨#[97]⟩
def s1 : ByteArray := ⟨#[49]⟩
def s2 : ByteArray := ⟨#[50]⟩
def attrsL : Nat → List At
  | 1 => [(⟨#[97]⟩, ⟨#[49]⟩)]
  | 2 => [(⟨#[97]⟩, ⟨#[49]⟩), (⟨#[98]⟩, ⟨#[50]⟩)]
  | 3 => [(⟨#[98]⟩, ⟨#[50]⟩), (⟨#[97]⟩, ⟨#[49]⟩)]
  | 4 => [(⟨#[97]⟩, ⟨#[50]⟩)]
  | _ => []
def attrsN (k : Int) : List At := attrsL (k % 7).toNat
theorem attrsN_len (k : Int) : (attrsN k).length ≤ 2 := by
  unfold attrsN attrsL; split <;> simp
theorem New.attr {w w' : World} {b : Nat} {cs : List Value} (h : New w w' b 89 cs) (l : List At) (hl : cs = encA l) (m : Nat) (hm : m = l.length) : AttrS w' (.slice (some ⟨b, 0, none⟩) m m) l := by
  subst hl; subst hm
  exact RdS.new h (encA_len l) (encA_one l)
set_option maxHeartbeats 1000000 in
theorem attrs_calls {w : World} (k : Int) : Calls Try.prog 25 [.int .i64 k].toArray w fun e w' => ∃ v, e = .returned v ∧ AttrS w' v (attrsN k) ∧ Chg w w' No := by
  have h7 : 0 ≤ k % 7 ∧ k % 7 < 7 := ⟨Int.emod_nonneg _ (by decide), Int.emod_lt_of_pos _ (by decide)⟩
  obtain ⟨i, hi⟩ := Int.eq_ofNat_of_zero_le h7.1
  have hat : attrsN k = attrsL i := by unfold attrsN; rw [hi]; rfl
  rw [hat]
  refine calls_zc (n := 27) (f := 25) (fn := Try.f25) Try.func25 rfl rfl (by simp) ?_
  refine zc_seq ?_
  refine zc_region ?_
  refine zl_pureL rfl ?_
  refine zl_nil ?_
  refine zk_seq ?_
  refine zc_seq ?_
  refine zc_region ?_
  refine z_buildE #[.string ⟨#[97]⟩, .string ⟨#[49]⟩] (by first | exact want_none | exact want_L rfl) (by decide) rfl (by kernel_rfl) ?_
  refine z_buildE #[.string ⟨#[98]⟩, .string ⟨#[50]⟩] (by first | exact want_none | exact want_L rfl) (by decide) rfl (by kernel_rfl) ?_
  refine z_alloc (by first | exact want_none | exact want_L rfl) (by decide) (fun w1 b1 hN1 => ?_)
  have hb1 : Blk w1 b1 89 [.string ⟨#[]⟩, .string ⟨#[]⟩] := hN1.blk
  refine z_alloc (by first | exact want_none | exact want_L rfl) (by decide) (fun w2 b2 hN2 => ?_)
  have hb1 := hb1.no hN2.chg
  have hb2 : Blk w2 b2 89 [.string ⟨#[]⟩, .string ⟨#[]⟩] := hN2.blk
  have hne : b1 ≠ b2 := by have := hN1.at_; have := hN2.at_; have := hN1.size; omega
  have hC2 := hN1.chg.new hN2
  refine z_store (by first | exact want_none | exact want_L rfl) rfl rfl rfl (by assumption) (by first | exact Nat.le_refl _ | simp [Value.cells]) (by simp [Value.cells, Value.oneCell']) (fun w3 hU3 => ?_)
  have hb1 : Blk w3 b1 89 [.string ⟨#[97]⟩, .string ⟨#[49]⟩] := hU3.blk
  have hb2 := hb2.chg hU3.chg (fun he => hne he.symm)
  have hC3 := hC2.upd hU3 (hN1.ge (Chg.refl _ No))
  refine z_store (by first | exact want_none | exact want_L rfl) rfl rfl rfl (by assumption) (by first | exact Nat.le_refl _ | simp [Value.cells]) (by simp [Value.cells, Value.oneCell']) (fun w4 hU4 => ?_)
  have hb2 : Blk w4 b2 89 [.string ⟨#[98]⟩, .string ⟨#[50]⟩] := hU4.blk
  have hb1 := hb1.chg hU4.chg hne
  have hC4 := hC3.upd hU4 (hN2.ge hN1.chg)
  refine zl_nil ?_
  refine zk_seq ?_
  iterate 2 (refine zc_seq ?_)
  refine zc_region ?_
  refine zl_pureL rfl ?_
  refine zl_call (by first | exact want_none | exact want_L rfl) rfl (by decide) rfl (within_calls (n := 7) (by decide) (by decide)) ?_
  rintro _ w2 ⟨rfl, rfl⟩
  refine ⟨_, rfl, ?_⟩
  rw [show k % (7 : Nat) = (i : Int) from hi]
  refine zl_nil ?_
  refine zk_seq ?_
  refine zc_block ?_
  refine zc_seq ?_
  refine zc_region ?_
  refine z_cmp (by first | exact want_none | exact want_L rfl) (by decide) rfl rfl rfl (fun hc => ?_) (fun hc => ?_)
  · obtain rfl : i = 1 := by omega
    refine zl_pureL rfl ?_
    refine zl_nil ?_
    refine zk_seq ?_
    refine zc_true rfl ?_
    refine zc_seq ?_
    refine zc_region ?_
    refine z_loadAB want_none (by decide) rfl (by assumption) (by rfl) ?_
    refine z_bs1 (by first | exact want_none | exact want_L rfl) (by decide) rfl (by rfl) (by rfl) (by decide) (by decide) (fun w5 b5 hN5 => ?_)
    refine zl_pureL rfl ?_
    refine zl_nil ?_
    refine zk_seq ?_
    refine zc_ret ?_
    refine zk_ret_block ?_
    refine zk_ret_then ?_
    exact zk_ret1 (.inr rfl) rfl rfl ⟨_, rfl, New.attr hN5 (attrsL 1) rfl 1 rfl, hC4.no hN5.chg⟩
  · refine zl_pureL rfl ?_
    refine zl_nil ?_
    refine zk_seq ?_
    refine zc_false rfl ?_
    refine zc_seq ?_
    refine zc_region ?_
    refine z_cmp (by first | exact want_none | exact want_L rfl) (by decide) rfl rfl rfl (fun hc => ?_) (fun hc => ?_)
    · obtain rfl : i = 2 := by omega
      refine zl_pureL rfl ?_
      refine zl_nil ?_
      refine zk_seq ?_
      refine zc_true rfl ?_
      refine zc_seq ?_
      refine zc_region ?_
      iterate 2 (refine z_loadAB want_none (by decide) rfl (by assumption) (by rfl) ?_)
      refine z_bsE [.string ⟨#[97]⟩, .string ⟨#[49]⟩, .string ⟨#[98]⟩, .string ⟨#[50]⟩] (by first | exact want_none | exact want_L rfl) (by decide) rfl (by decide) (by decide) (by kernel_rfl) (fun w5 b5 hN5 => ?_)
      refine zl_pureL rfl ?_
      refine zl_nil ?_
      refine zk_seq ?_
      refine zc_ret ?_
      refine zk_ret_block ?_
      refine zk_ret_then ?_
      exact zk_ret1 (.inr rfl) rfl rfl ⟨_, rfl, New.attr hN5 (attrsL 2) rfl 2 rfl, hC4.no hN5.chg⟩
    · refine zl_pureL rfl ?_
      refine zl_nil ?_
      refine zk_seq ?_
      refine zc_false rfl ?_
      refine zc_seq ?_
      refine zc_region ?_
      refine z_cmp (by first | exact want_none | exact want_L rfl) (by decide) rfl rfl rfl (fun hc => ?_) (fun hc => ?_)
      · obtain rfl : i = 3 := by omega
        refine zl_pureL rfl ?_
        refine zl_nil ?_
        refine zk_seq ?_
        refine zc_true rfl ?_
        refine zc_seq ?_
        refine zc_region ?_
        iterate 2 (refine z_loadAB want_none (by decide) rfl (by assumption) (by rfl) ?_)
        refine z_bsE [.string ⟨#[98]⟩, .string ⟨#[50]⟩, .string ⟨#[97]⟩, .string ⟨#[49]⟩] (by first | exact want_none | exact want_L rfl) (by decide) rfl (by decide) (by decide) (by kernel_rfl) (fun w5 b5 hN5 => ?_)
        refine zl_pureL rfl ?_
        refine zl_nil ?_
        refine zk_seq ?_
        refine zc_ret ?_
        refine zk_ret_block ?_
        refine zk_ret_then ?_
        exact zk_ret1 (.inr rfl) rfl rfl ⟨_, rfl, New.attr hN5 (attrsL 3) rfl 2 rfl, hC4.no hN5.chg⟩
      · refine zl_pureL rfl ?_
        refine zl_nil ?_
        refine zk_seq ?_
        refine zc_false rfl ?_
        refine zc_seq ?_
        refine zc_region ?_
        refine z_cmp (by first | exact want_none | exact want_L rfl) (by decide) rfl rfl rfl (fun hc => ?_) (fun hc => ?_)
        · obtain rfl : i = 4 := by omega
          refine zl_pureL rfl ?_
          refine zl_nil ?_
          refine zk_seq ?_
          refine zc_true rfl ?_
          refine zc_seq ?_
          refine zc_region ?_
          refine z_buildE #[.string ⟨#[97]⟩, .string ⟨#[50]⟩] (by first | exact want_none | exact want_L rfl) (by decide) rfl (by kernel_rfl) ?_
          refine z_bs1 (by first | exact want_none | exact want_L rfl) (by decide) rfl (by rfl) (by rfl) (by decide) (by decide) (fun w5 b5 hN5 => ?_)
          refine zl_pureL rfl ?_
          refine zl_nil ?_
          refine zk_seq ?_
          refine zc_ret ?_
          refine zk_ret_block ?_
          refine zk_ret_then ?_
          exact zk_ret1 (.inr rfl) rfl rfl ⟨_, rfl, New.attr hN5 (attrsL 4) rfl 1 rfl, hC4.no hN5.chg⟩
        · have h0 : attrsL i = [] := by
            match i, (show i ≠ 1 by omega), (show i ≠ 2 by omega), (show i ≠ 3 by omega), (show i ≠ 4 by omega) with
            | 0, _, _, _, _ => rfl
            | 1, h, _, _, _ => exact absurd rfl h
            | 2, _, h, _, _ => exact absurd rfl h
            | 3, _, _, h, _ => exact absurd rfl h
            | 4, _, _, _, h => exact absurd rfl h
            | n + 5, _, _, _, _ => rfl
          rw [h0]
          refine zl_pureL rfl ?_
          refine zl_nil ?_
          refine zk_seq ?_
          refine zc_false rfl ?_
          refine zc_skip ?_
          refine zk_norm_block ?_
          refine zk_seq ?_
          refine zc_seq ?_
          refine zc_region ?_
          refine zl_pureL rfl ?_
          refine zl_nil ?_
          refine zk_seq ?_
          refine zc_ret ?_
          exact zk_ret1 (.inr rfl) rfl rfl ⟨_, rfl, AttrS.nil _, hC4⟩
/-- attributes held against each other -/
theorem eq_attr {w : World} {a b c d : ByteArray} (k : Nat) : (Op.equalIn (k + 5) 89 (.agg #[.string a, .string b]) (.agg #[.string c, .string d])).run Try.prog w = .ok (decide (a = c) && (decide (b = d) && true)) w := by
  refine eq_struct Try.underlying89 (by kernel_rfl) ?_
  refine eqF_cons (by rfl) (part1 rfl) (part1 rfl) eq_str ?_
  exact eqF_cons (by rfl) (part1 rfl) (part1 rfl) eq_str eqF_nil
theorem take_getD {α : Type} (d : α) {l : List α} {k : Nat} (h : k < l.length) : l.take (k + 1) = l.take k ++ [l.getD k d] := by
  rw [List.take_succ_eq_append_getElem h, List.getD_eq_getElem?_getD, List.getElem?_eq_getElem h]; rfl
end Go.Proofs.Yteeibieaapiomaa.M
