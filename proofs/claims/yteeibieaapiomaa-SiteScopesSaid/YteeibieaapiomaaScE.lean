import Derived.Test.YteeibieaapiomaaScD
import Derived.Lib.AppendZerosOnto
import Derived.Lib.Overlaps
/- SIns -/
/- slices.Insert: one entry. -/
namespace Go.Z
open Go
section
variable {P : Program} {n : Nat} {e : Env} {w : World} {Q : Exit → Act → World → Prop} {ops : Array Oper} {rest : List Oper}
variable {d : Tmp} {ty : TypeId} {pos : String} {aft : Array Edge} {g : Option (Nat × Bool)}
/-- zero values behind a row that has no room for them -/
theorem appendZ_run {s x : Operand} {t tn el : TypeId} {sz k m c kk b : Nat} {kx : Int} {z : Value} {xs : List Value} [hu : Und P t (.slice el)] [hn : Und P tn (.int .i64)] [hz : Inf P el sz k z] (hzs : z.cells.size = sz) (hsz : 0 < sz)
    (hs : ev e s = some (.slice (some ⟨b, 0, none⟩) m c)) (hx : ev e x = some (.int .i64 kx)) (hkx : kx = (kk : Int)) (hown : Own w el sz (.slice (some ⟨b, 0, none⟩) m c) m xs) (h0 : 0 < kk) (hg : c < m + kk) (h63 : m + kk ≤ maxLen) (hby : (m + kk) * k ≤ 140737488355328) :
    ∃ cap zc junk w', (∀ a, Ok n e a → (execOp a.eval (⟨some d, .call { callee := .builtin .append, args := #[s, x], argTypes := #[t, tn] }, ty, pos, aft, g⟩ : Oper)).run P w = .ok (.value (.slice (some ⟨w.heap.size, 0, none⟩) (m + kk) cap)) w') ∧
      m + kk ≤ cap ∧ cap ≤ maxLen ∧ Blk w' w.heap.size el (xs ++ zc ++ junk) ∧ zc.length = kk * sz ∧ (xs ++ zc ++ junk).length = cap * sz ∧ Chg w w' No ∧ w'.heap.size = w.heap.size + 1 := by
  subst hkx
  obtain ⟨i, hi1, hi2, hi3, hi4⟩ := hz.ex
  have hl := hown.len
  subst hi2
  have hsrc : ∀ j u, xs[j]? = some u → w.drew.cell? ((⟨b, 0, none⟩ : Addr).add j) = some u := fun j u hj => by
    have := hown.1.cells (g := b) rfl j u hj
    exact this
  have hold := run_firstCells_some (P := P) (w := w.drew) i.size m ⟨b, 0, none⟩ m c xs hl hsrc
  have h1 : kk * k ≤ 140737488355328 := Nat.le_trans (Nat.mul_le_mul_right _ (by omega)) hby
  have hr := Lib.run_append_grow_zeros (P := P) w t tn ty el i z .i64 .i64 hu.eq hn.eq hi1 hi4 (some ⟨b, 0, none⟩) m c xs hold kk h0 hsz hg (by simp only [maxLen] at h63; omega) (by rw [hi3]; omega) (by rw [hi3]; exact growslice_fits hg hby)
  have hge := grownCap_ge w (m + kk) c el
  refine ⟨grownCap w (m + kk) c el, (Builtin.zeroCells z.cells kk).toList, (Builtin.zeroCells z.cells (grownCap w (m + kk) c el - (m + kk))).toList, w.drew.alloc (.cells (xs.toArray ++ Builtin.zeroCells z.cells kk ++ Builtin.zeroCells z.cells (grownCap w (m + kk) c el - (m + kk))) el), fun a ha => by simp [execOp, resolve, invoke, builtin, ha.ev hs, ha.ev hx, hr], hge, grownCap_le_maxLen w (m + kk) c el h63, ?_, ?_, ?_, ⟨rfl, rfl, rfl, by simp, fun k hk _ => heap_alloc_old w.drew _ hk⟩, by simp⟩
  · have := heap_alloc_new w.drew (.cells (xs.toArray ++ Builtin.zeroCells z.cells kk ++ Builtin.zeroCells z.cells (grownCap w (m + kk) c el - (m + kk))) el)
    unfold Blk
    refine this.trans ?_
    congr 2
    simp
  · rw [Array.length_toList, size_zeroCells, hzs]
  · simp only [List.length_append, Array.length_toList, size_zeroCells, hzs, hl, ← Nat.add_mul]
    congr 1; omega
theorem z_appendZ {s x : Operand} {t tn el : TypeId} {sz k m c b : Nat} {kx : Int} (kk : Nat) {z : Value} {xs : List Value} [hu : Und P t (.slice el)] [hn : Und P tn (.int .i64)] [hz : Inf P el sz k z] (hw : Want ops e g) (hdn : d < n) (hzs : z.cells.size = sz) (hsz : 0 < sz)
    (hs : ev e s = some (.slice (some ⟨b, 0, none⟩) m c)) (hx : ev e x = some (.int .i64 kx)) (hkx : kx = (kk : Int)) (hown : Own w el sz (.slice (some ⟨b, 0, none⟩) m c) m xs) (h0 : 0 < kk) (hg : c < m + kk) (h63 : m + kk ≤ maxLen) (hby : (m + kk) * k ≤ 140737488355328)
    (h : ∀ cap zc junk w', m + kk ≤ cap → cap ≤ maxLen → Blk w' w.heap.size el (xs ++ zc ++ junk) → zc.length = kk * sz → (xs ++ zc ++ junk).length = cap * sz → Chg w w' No → w'.heap.size = w.heap.size + 1 → ZL P n ops rest ((d, .slice (some ⟨w.heap.size, 0, none⟩) (m + kk) cap) :: e) w' Q) :
    ZL P n ops (⟨some d, .call { callee := .builtin .append, args := #[s, x], argTypes := #[t, tn] }, ty, pos, aft, g⟩ :: rest) e w Q := by
  obtain ⟨cap, zc, junk, w', hr, g1, g2, g3, g4, g5, g6, g7⟩ := appendZ_run (P := P) (n := n) (d := d) (ty := ty) (pos := pos) (aft := aft) (g := g) (t := t) (tn := tn) hzs hsz hs hx hkx hown h0 hg h63 hby
  exact zl_run hw rfl hdn hr (h cap zc junk w' g1 g2 g3 g4 g5 g6 g7)
theorem z_cap {x : Operand} {A : Option Addr} {m c : Nat} {t el : TypeId} [hu : Und P t (.slice el)] (hw : Want ops e g) (hdn : d < n) (hx : ev e x = some (.slice A m c)) (h : ZL P n ops rest ((d, .int .i64 c) :: e) w Q) :
    ZL P n ops (⟨some d, .call { callee := .builtin .cap, args := #[x], argTypes := #[t] }, ty, pos, aft, g⟩ :: rest) e w Q :=
  zl_run hw rfl hdn (w' := w) (fun a ha => by simp [execOp, resolve, invoke, builtin, ha.ev hx, Builtin.cap_, run_underlying hu.eq, goInt]) h
/-- two slices in two blocks -/
theorem overlaps_run {f : FuncId} {fn : Func} {tS tR el : TypeId} {x y : Operand} {ats : Array TypeId} {b1 b2 o1 o2 l1 c1 l2 c2 sz k : Nat} {z : Value} {cs1 cs2 : List Value} {t1 t2 : TypeId} [hu : Und P tS (.slice el)] [hz : Inf P el sz k z]
    (hf : P.funcs[f]? = some fn) (hname : (fn.name == "runtime.NumGoroutine") = false) (hb : fn.body.isNone = true) (hn : Extern.findNext fn = none) (he : Extern.find fn = some (Extern.SlicesOverlaps.overlaps #[tS, tS] #[tR]))
    (hx : ev e x = some (.slice (some ⟨b1, o1, none⟩) l1 c1)) (hy : ev e y = some (.slice (some ⟨b2, o2, none⟩) l2 c2)) (h1 : Blk w b1 t1 cs1) (h2 : Blk w b2 t2 cs2) (hne : b1 ≠ b2) (hk : cs2.length ≠ 0) :
    ∀ a, Ok n e a → (execOp a.eval (⟨some d, .call { callee := .value (.func f), args := #[x, y], argTypes := ats }, ty, pos, aft, g⟩ : Oper)).run P w = .ok (.value (.bool false)) w := fun a ha => by
  have hr := run_callFunc_extern (P := P) hf hname hb hn he #[.slice (some ⟨b1, o1, none⟩) l1 c1, .slice (some ⟨b2, o2, none⟩) l2 c2] w
  have hs1 : w.shape? b1 = some (t1, cs1.length) := by unfold World.shape?; rw [show w.heap[b1]? = _ from h1]; simp
  have hs2 : w.shape? b2 = some (t2, cs2.length) := by unfold World.shape?; rw [show w.heap[b2]? = _ from h2]; simp
  have ho := Lib.run_overlaps_apart (P := P) w tS tR el hu.eq sz (fun w => hz.size w) ⟨b1, o1, none⟩ ⟨b2, o2, none⟩ l1 c1 l2 c2 hne t1 t2 _ _ hs1 hs2 hk (h1.thawed _) (h1.thawed _)
  rw [ho] at hr
  have e1 : a.eval (.func f) = .func (.func f) #[] #[] := rfl
  simp [execOp, resolve, e1, Deferred.ofValue, invoke, ha.ev hx, ha.ev hy, hr, Result.andThen]
end
end Go.Z

namespace Go.Proofs.Yteeibieaapiomaa.D
open Go Go.Z Go.Proofs
set_option linter.unusedVariables false
instance : Und Try.prog 3 (.int .i64) := ⟨Try.underlying3⟩
/-- one entry put in at i -/
def insC (cs : List Value) (i : Nat) (ec : List Value) : List Value := cs.take (i * 3) ++ ec ++ cs.drop (i * 3)
theorem ins_in {A B J ec : List Value} {a : Nat} (ha : A.length = a) (hj : 3 ≤ J.length) (hec : ec.length = 3) : Z.lay (Z.lay (A ++ B ++ J) (a + 3) B) a ec = A ++ ec ++ B ++ J.drop 3 := by
  subst ha
  obtain ⟨Y, hY, hYl⟩ : ∃ Y : List Value, (A ++ B ++ J).take (A.length + 3) = A ++ Y ∧ Y.length = 3 := by
    refine ⟨(B ++ J).take 3, ?_, by rw [List.length_take, List.length_append]; omega⟩
    rw [List.append_assoc, List.take_length_add_append]
  have hd : (A ++ B ++ J).drop (A.length + 3 + B.length) = J.drop 3 := by
    rw [show A.length + 3 + B.length = (A ++ B).length + 3 by rw [List.length_append]; omega, List.drop_length_add_append]
  have h1 : Z.lay (A ++ B ++ J) (A.length + 3) B = A ++ (Y ++ (B ++ J.drop 3)) := by
    unfold Z.lay
    rw [hY, hd]
    simp
  rw [h1]
  unfold Z.lay
  rw [List.take_left, hec, List.drop_length_add_append, ← hYl, List.drop_left]
  simp
theorem ins_grow {A Y B J ec : List Value} {a : Nat} (ha : A.length = a) (hz : Y.length = B.length + 3) (hec : ec.length = 3) : Z.lay (Z.lay (A ++ Y ++ J) a ec) (a + 3) B = A ++ ec ++ B ++ J := by
  subst ha
  have h1 : Z.lay (A ++ Y ++ J) A.length ec = A ++ ec ++ (Y.drop 3 ++ J) := by
    rw [List.append_assoc A Y J]
    unfold Z.lay
    rw [List.take_left, hec, List.drop_length_add_append, List.drop_append_of_le_length (by omega)]
  rw [h1]
  unfold Z.lay
  have hl : (A ++ ec).length = A.length + 3 := by rw [List.length_append, hec]
  rw [← hl, List.take_left, List.drop_length_add_append, List.drop_append_of_le_length (by rw [List.length_drop]; omega), List.drop_drop, List.drop_of_length_le (by omega)]
  simp
theorem insC_len {cs ec : List Value} {i n : Nat} (hc : cs.length = n * 3) (hi : i ≤ n) (he : ec.length = 3) : (insC cs i ec).length = (n + 1) * 3 := by
  unfold insC
  rw [List.length_append, List.length_append, List.length_take, List.length_drop]; omega
theorem insC_one {cs ec : List Value} {i : Nat} (h : ∀ u ∈ cs, u.oneCell' = true) (he : ∀ u ∈ ec, u.oneCell' = true) : ∀ u ∈ insC cs i ec, u.oneCell' = true := fun u hu => by
  unfold insC at hu
  rcases List.mem_append.1 hu with hu | hu
  · rcases List.mem_append.1 hu with hu | hu
    · exact h u (List.mem_of_mem_take hu)
    · exact he u hu
  · exact h u (List.mem_of_mem_drop hu)
set_option maxRecDepth 100000 in
set_option maxHeartbeats 8000000 in
theorem sIns_calls {w : World} {vo : Value} {n i vb : Nat} {cs ec : List Value} (h : Own w 74 3 vo n cs) (hvb : Blk w vb 74 ec) (hec : ec.length = 3) (h1 : ∀ u ∈ ec, u.oneCell' = true) (hne : vo.ownBlock ≠ some vb) (hn : n ≤ 1000000) (hi : i < n) :
    Calls Try.prog 52 [vo, .int .i64 i, .slice (some ⟨vb, 0, none⟩) 1 1].toArray w fun x w' => ∃ v', x = .returned v' ∧ Own w' 74 3 v' (n + 1) (insC cs i ec) ∧ Chg w w' (fun k => vo.ownBlock = some k) ∧ (v'.ownBlock = vo.ownBlock ∨ ∃ k, v'.ownBlock = some k ∧ w.heap.size ≤ k) := by
  have hcl := h.len
  rcases h.cases.2 with ⟨_, h0, _⟩ | ⟨b, cap, junk, rfl, hcap, hmax, hB, htot⟩
  · omega
  have hr : RdS w 74 3 (.slice (some ⟨vb, 0, none⟩) 1 1) 1 ec := RdS.blk hvb (by omega) (Nat.le_refl _) h1 0 (fun j u hj => by simpa using hj)
  have hneb : b ≠ vb := fun he => hne (by rw [he]; rfl)
  have hicl : i * 3 ≤ cs.length := by omega
  refine calls_zc (n := 95) (f := 52) (fn := Try.f52) Try.func52 rfl rfl (by simp) ?_
  refine zc_seq ?_
  refine zc_region ?_
  refine zl_pureL rfl ?_
  refine zl_nil ?_
  refine zk_seq ?_
  refine zc_seq ?_
  refine zc_region ?_
  iterate 2 (refine zl_pureL rfl ?_)
  refine zl_run (by first | exact want_none | exact want_L rfl) rfl (by decide) (r_cutFrom (k := i) rfl rfl (by omega) (by omega)) ?_
  refine zl_nil ?_
  refine zk_seq ?_
  refine zc_seq ?_
  refine zc_region ?_
  refine zl_pureL rfl ?_
  refine z_len want_none (by decide) rfl ?_
  refine zl_pureL rfl ?_
  refine zl_nil ?_
  refine zk_seq ?_
  iterate 2 (refine zc_seq ?_)
  refine zc_region ?_
  refine zl_pureL rfl ?_
  refine z_cmpB (r := false) want_none (by decide) rfl rfl rfl (iff_of_false Bool.false_ne_true (by omega)) ?_
  refine zl_nil ?_
  refine zk_seq ?_
  refine zc_false rfl ?_
  refine zc_skip ?_
  refine zk_seq ?_
  refine zc_seq ?_
  refine zc_region ?_
  refine zl_pureL rfl ?_
  refine z_len want_none (by decide) rfl ?_
  refine zl_pureL rfl ?_
  refine zl_nil ?_
  refine zk_seq ?_
  iterate 2 (refine zc_seq ?_)
  refine zc_region ?_
  iterate 2 (refine zl_pureL rfl ?_)
  refine z_cmpB (r := false) want_none (by decide) rfl rfl rfl (iff_of_false Bool.false_ne_true (by omega)) ?_
  refine zl_nil ?_
  refine zk_seq ?_
  refine zc_false rfl ?_
  refine zc_skip ?_
  refine zk_seq ?_
  iterate 2 (refine zc_seq ?_)
  refine zc_region ?_
  iterate 2 (refine zl_pureL rfl ?_)
  refine z_add want_none (by decide) rfl rfl (by omega) (by omega) ?_
  refine zl_pureL rfl ?_
  by_cases hroom : n + 1 ≤ cap
  · refine z_cap (by first | exact want_none | exact want_L rfl) (by decide) rfl ?_
    refine z_cmpB (r := false) want_none (by decide) rfl rfl rfl (iff_of_false Bool.false_ne_true (by omega)) ?_
    refine zl_nil ?_
    refine zk_seq ?_
    refine zc_false rfl ?_
    refine zc_skip ?_
    refine zk_seq ?_
    refine zc_seq ?_
    refine zc_region ?_
    iterate 3 (refine zl_pureL rfl ?_)
    refine z_add want_none (by decide) rfl rfl (by omega) (by omega) ?_
    refine zl_run (by first | exact want_none | exact want_L rfl) rfl (by decide) (r_cutTo (k := n + 1) (.inr ⟨_, _, rfl⟩) rfl (optI_eq rfl (by omega)) (by omega)) ?_
    refine zl_pureL rfl ?_
    refine zl_nil ?_
    refine zk_seq ?_
    iterate 2 (refine zc_seq ?_)
    refine zc_region ?_
    iterate 4 (refine zl_pureL rfl ?_)
    refine z_add want_none (by decide) rfl rfl (by omega) (by omega) ?_
    refine zl_run (by first | exact want_none | exact want_L rfl) rfl (by decide) (r_cutFrom (k := i + 1) rfl (optI_eq rfl (by omega)) (by omega) (by omega)) ?_
    rw [cutA_at (by omega), Nat.zero_add]
    skip
    refine zl_run (by first | exact want_none | exact want_L rfl) rfl (by decide) (overlaps_run (tS := 70) (tR := 4) (el := 74) (Try.func85) (by kernel_rfl) (by kernel_rfl) (by kernel_rfl) (by kernel_rfl) rfl rfl hvb hB (Ne.symm hneb) (by rw [htot]; omega)) ?_
    refine zl_pureL rfl ?_
    refine zl_nil ?_
    refine zk_seq ?_
    refine zc_true rfl ?_
    refine zc_seq ?_
    refine zc_draw [] (fun w' => Chg w w' (· = b)) (.take 0 (.take 1 (.take 2 (.take 3 (.take 4 (.take 5 (.take 6 (.take 7 (.all1 8 (.fin)))))))))) (by rfl) (by kernel_rfl) (by kernel_rfl) (fun w2 hC2 _ => ⟨?_, ?_⟩)
    · exact hC2.mono (fun _ _ h => h.elim)
    have hB2 := hB.no hC2
    iterate 3 (refine zs_take rfl (zt_pure rfl ?_))
    refine zs_rdL rfl want_none rfl (by decide) (fun _ hS => r_add rfl rfl (by omega) (by omega)) ?_
    refine zs_rdL rfl (by first | exact want_none | exact want_L rfl) rfl (by decide) (fun _ hS => r_cutFrom (k := i + 1) rfl (optI_eq rfl (by omega)) (by omega) (by omega)) ?_
    rw [cutA_at (by omega), Nat.zero_add]
    iterate 2 (refine zs_take rfl (zt_pure rfl ?_))
    refine zs_rdL rfl (by first | exact want_none | exact want_L rfl) rfl (by decide) (fun _ hS => r_cutFrom (k := i) rfl rfl (by omega) (by omega)) ?_
    rw [cutA_at (by omega), Nat.zero_add]
    skip
    have hAl : (cs.take (i * 3)).length = i * 3 := by rw [List.length_take]; omega
    have hsp : cs.take (i * 3) ++ cs.drop (i * 3) ++ junk = cs ++ junk := by rw [List.take_append_drop]
    have hBl : (cs.drop (i * 3)).length = (n - i) * 3 := by rw [List.length_drop]; omega
    have hjl : 3 ≤ junk.length := by rw [List.length_append] at htot; omega
    have hmin : Nat.min (n + 1 - i) (n + 1 - (i + 1)) = n - i := by rw [show n + 1 - (i + 1) = n - i by omega]; exact Nat.min_eq_right (by omega)
    refine zs_copy (cs := cs.drop (i * 3)) rfl (by first | exact want_none | exact want_L rfl) (by decide) rfl rfl hB2 (by rw [hmin, hBl]) (fun j u hj => by
      rw [addr_add, hB2.cell]
      rw [List.getElem?_drop] at hj
      rw [List.getElem?_append_left (List.getElem?_eq_some_iff.1 hj).1]; exact hj) (by rw [hBl, List.length_append]; omega) (fun u hu => h.2 u (List.mem_of_mem_drop hu)) (fun w3 hU3 => ?_)
    refine ⟨(hC2.mono (fun _ _ h => h.elim)).trans hU3.chg (fun _ _ h => h), ?_⟩
    have hvb3 := (hvb.no hC2).chg hU3.chg (Ne.symm hneb)
    have hB3 := hU3.blk
    refine zs_fin ?_
    refine zk_seq ?_
    refine zc_seq ?_
    refine zc_region ?_
    iterate 2 (refine zl_pureL rfl ?_)
    refine zl_run (by first | exact want_none | exact want_L rfl) rfl (by decide) (r_cutFrom (k := i) rfl rfl (by omega) (by omega)) ?_
    rw [cutA_at (by omega), Nat.zero_add]
    refine zl_pureL rfl ?_
    have hmin2 : Nat.min 1 (n + 1 - i) = 1 := Nat.min_eq_left (by omega)
    refine z_copy (cs := ec) (by first | exact want_none | exact want_L rfl) (by decide) rfl rfl hB3 (by rw [hmin2, hec]) (fun j u hj => by
      rw [addr_add, hvb3.cell, Nat.zero_add]; exact hj) (by rw [lay_len (by rw [hBl, List.length_append]; omega), List.length_append]; omega) h1 (fun w4 hU4 => ?_)
    have hB4 := hU4.blk
    rw [← hsp, show (i + 1) * 3 = i * 3 + 3 by omega, ins_in hAl hjl hec] at hB4
    refine zl_nil ?_
    refine zk_seq ?_
    refine zc_seq ?_
    refine zc_region ?_
    iterate 2 (refine zl_pureL rfl ?_)
    refine zl_nil ?_
    refine zk_seq ?_
    refine zc_ret ?_
    refine zk_ret_then ?_
    refine zk_ret1 (.inr rfl) rfl rfl ⟨_, rfl, Own.mk' (junk := junk.drop 3) (insC_len hcl (by omega) hec) hroom hmax hB4 ?_ (insC_one h.2 h1), ?_, .inl rfl⟩
    · show (insC cs i ec ++ junk.drop 3).length = cap * 3
      rw [List.length_append, insC_len hcl (by omega) hec, List.length_drop]
      rw [List.length_append] at htot; omega
    · exact ((hC2.mono (fun _ _ h => h.elim)).trans hU3.chg (fun _ _ h => by rw [h]; rfl)).trans hU4.chg (fun _ _ h => by rw [h]; rfl)
  · refine z_cap (by first | exact want_none | exact want_L rfl) (by decide) rfl ?_
    refine z_cmpB (r := true) want_none (by decide) rfl rfl rfl (iff_of_true rfl (by omega)) ?_
    refine zl_nil ?_
    refine zk_seq ?_
    refine zc_true rfl ?_
    refine zc_seq ?_
    refine zc_region ?_
    iterate 2 (refine zl_pureL rfl ?_)
    refine zl_run (by first | exact want_none | exact want_L rfl) rfl (by decide) (r_cutTo (k := i) (.inr ⟨_, _, rfl⟩) rfl rfl (by omega)) ?_
    iterate 2 (refine zl_pureL rfl ?_)
    refine z_add want_none (by decide) rfl rfl (by omega) (by omega) ?_
    refine zl_pureL rfl ?_
    refine z_sub want_none (by decide) rfl rfl (by omega) (by omega) ?_
    refine z_appendZ (n + 1 - i) (by first | exact want_none | exact want_L rfl) (by decide) (by rfl) (by decide) rfl rfl (by omega) (h.take i (by omega)) (by omega) (by omega) (by simp only [maxLen]; omega) (by omega) (fun cap2 zc junk2 w2 g1 g2 g3 g4 g5 g6 g7 => ?_)
    refine zl_pureL rfl ?_
    refine zl_nil ?_
    refine zk_seq ?_
    refine zc_seq ?_
    refine zc_region ?_
    iterate 2 (refine zl_pureL rfl ?_)
    refine zl_run (by first | exact want_none | exact want_L rfl) rfl (by decide) (r_cutFrom (k := i) rfl rfl (by omega) (by omega)) ?_
    rw [cutA_at (by omega), Nat.zero_add]
    refine zl_pureL rfl ?_
    have hAl : (cs.take (i * 3)).length = i * 3 := by rw [List.length_take]; omega
    have hBl : (cs.drop (i * 3)).length = (n - i) * 3 := by rw [List.length_drop]; omega
    have hmin1 : Nat.min 1 (i + (n + 1 - i) - i) = 1 := Nat.min_eq_left (by omega)
    have hmin2 : Nat.min (n - i) (i + (n + 1 - i) - (i + 1)) = n - i := Nat.min_eq_left (by omega)
    have hvb2 := hvb.no g6
    refine z_copy (cs := ec) (by first | exact want_none | exact want_L rfl) (by decide) rfl rfl g3 (by rw [hmin1, hec]) (fun j u hj => by
      rw [addr_add, hvb2.cell, Nat.zero_add]; exact hj) (by rw [g5]; omega) h1 (fun w3 hU3 => ?_)
    have hB3 := hU3.blk
    have hbs3 : Blk w3 b 74 (cs ++ junk) := (hB.no g6).chg hU3.chg (by have := hB.lt; omega)
    refine zl_nil ?_
    refine zk_seq ?_
    refine zc_seq ?_
    refine zc_draw [] (fun w' => Chg w w' (· = b)) (.take 0 (.take 1 (.take 2 (.take 3 (.take 4 (.take 5 (.take 6 (.take 7 (.all1 8 (.fin)))))))))) (by rfl) (by kernel_rfl) (by kernel_rfl) (fun w4 hC4 _ => ⟨?_, ?_⟩)
    · exact ((g6.mono (S' := fun k => k = b) (fun _ _ h => h.elim)).trans hU3.chg (fun k hk he => by rw [he] at hk; omega)).trans (hC4.mono (S' := fun k => k = b) (fun _ _ h => h.elim)) (fun k _ h => h)
    have hB4 := hB3.no hC4
    have hbs4 := hbs3.no hC4
    iterate 3 (refine zs_take rfl (zt_pure rfl ?_))
    refine zs_rdL rfl want_none rfl (by decide) (fun _ hS => r_add rfl rfl (by omega) (by omega)) ?_
    refine zs_rdL rfl (by first | exact want_none | exact want_L rfl) rfl (by decide) (fun _ hS => r_cutFrom (k := i + 1) rfl (optI_eq rfl (by omega)) (by omega) (by omega)) ?_
    rw [cutA_at (by omega), Nat.zero_add]
    iterate 2 (refine zs_take rfl (zt_pure rfl ?_))
    refine zs_rdL rfl (by first | exact want_none | exact want_L rfl) rfl (by decide) (fun _ hS => r_cutFrom (k := i) rfl rfl (by omega) (by omega)) ?_
    rw [cutA_at (by omega), Nat.zero_add]
    skip
    refine zs_copy (cs := cs.drop (i * 3)) rfl (by first | exact want_none | exact want_L rfl) (by decide) rfl rfl hB4 (by rw [hmin2, hBl]) (fun j u hj => by
      rw [addr_add, hbs4.cell]
      rw [List.getElem?_drop] at hj
      rw [List.getElem?_append_left (List.getElem?_eq_some_iff.1 hj).1]; exact hj) (by rw [hBl, lay_len (by rw [g5]; omega), g5]; omega) (fun u hu => h.2 u (List.mem_of_mem_drop hu)) (fun w5 hU5 => ?_)
    have hC5 : Chg w w5 No := (((g6.trans hU3.chg (S := No) (fun k hk he => by rw [he] at hk; omega))).no hC4).trans hU5.chg (fun k hk he => by rw [he] at hk; omega)
    refine ⟨hC5.mono (fun _ _ h => h.elim), ?_⟩
    have hB5 := hU5.blk
    rw [show (i + 1) * 3 = i * 3 + 3 by omega, ins_grow hAl (by rw [g4, hBl]; omega) hec] at hB5
    refine zs_fin ?_
    refine zk_seq ?_
    refine zc_seq ?_
    refine zc_region ?_
    iterate 2 (refine zl_pureL rfl ?_)
    refine zl_nil ?_
    refine zk_seq ?_
    refine zc_ret ?_
    refine zk_ret_then ?_
    refine zk_ret1 (.inr rfl) rfl rfl ⟨_, rfl, ?_, hC5.mono (fun _ _ h => h.elim), .inr ⟨_, rfl, Nat.le_refl _⟩⟩
    rw [show i + (n + 1 - i) = n + 1 by omega]
    refine Own.mk' (junk := junk2) (insC_len hcl (by omega) hec) (by omega) g2 hB5 ?_ (insC_one h.2 h1)
    show (insC cs i ec ++ junk2).length = cap2 * 3
    rw [List.length_append, insC_len hcl (by omega) hec]
    rw [List.length_append, List.length_append, hAl, g4] at g5; omega
end Go.Proofs.Yteeibieaapiomaa.D
/- SDel -/
/- slices.Delete: one entry. -/
namespace Go.Z
open Go
section
variable {P : Program} {n : Nat} {e : Env} {w : World} {Q : Exit → Act → World → Prop} {ops : Array Oper} {rest : List Oper}
variable {d : Tmp} {ty : TypeId} {pos : String} {aft : Array Edge} {g : Option (Nat × Bool)}
/-- append where there is room, the row written known whole -/
theorem appendRoom_run {s x : Operand} {t el : TypeId} {sz k m m' cap b b' o' c' : Nat} {z : Value} {cur news : List Value} [hu : Und P t (.slice el)] [hz : Inf P el sz k z]
    (hs : ev e s = some (.slice (some ⟨b, 0, none⟩) m cap)) (hx : ev e x = some (.slice (some ⟨b', o', none⟩) m' c')) (hb : Blk w b el cur) (hl : news.length = m' * sz) (hnews : ∀ j u, news[j]? = some u → w.cell? ⟨b', o' + j, none⟩ = some u) (h1 : ∀ u ∈ news, u.oneCell' = true) (hroom : m + m' ≤ cap) (hfit : m * sz + news.length ≤ cur.length) :
    ∃ w', (∀ a, Ok n e a → (execOp a.eval (⟨some d, .call { callee := .builtin .append, args := #[s, x], argTypes := #[t, t] }, ty, pos, aft, g⟩ : Oper)).run P w = .ok (.value (.slice (some ⟨b, 0, none⟩) (m + m') cap)) w') ∧ Upd w w' b el (lay cur (m * sz) news) := by
  obtain ⟨i, hi1, hi2, hi3, hi4⟩ := hz.ex
  subst hi2
  have hr := run_append_room (P := P) w t ty el i hu.eq hi1 b m cap cur.toArray hb ⟨b', o', none⟩ m' c' news hl (fun j u hj => by rw [addr_add]; exact hnews j u hj) h1 hroom (by simpa using hfit)
  have hr2 : (Builtin.append_ #[t, t] ty #[.slice (some ⟨b, 0, none⟩) m cap, .slice (some ⟨b', o', none⟩) m' c']).run P w = .ok (.slice (some ⟨b, 0, none⟩) (m + m') cap) (w.setRow b (lay cur (m * i.size) news).toArray) := hr
  exact ⟨w.setRow b (lay cur (m * i.size) news).toArray, fun a ha => by simp [execOp, resolve, invoke, builtin, ha.ev hs, ha.ev hx, hr2], Upd.setRow hb⟩
theorem zs_appendRoom {ks : List Nat} {S : World → Prop} {i : Nat} {r : Ord} {s x : Operand} {t el : TypeId} {sz k m m' cap b b' o' c' : Nat} {z : Value} {cur news : List Value} [hu : Und P t (.slice el)] [hz : Inf P el sz k z] (hi : ops[i]? = some ⟨some d, .call { callee := .builtin .append, args := #[s, x], argTypes := #[t, t] }, ty, pos, aft, g⟩) (hw : Want ops e g) (hdn : d < n)
    (hs : ev e s = some (.slice (some ⟨b, 0, none⟩) m cap)) (hx : ev e x = some (.slice (some ⟨b', o', none⟩) m' c')) (hb : Blk w b el cur) (hl : news.length = m' * sz) (hnews : ∀ j u, news[j]? = some u → w.cell? ⟨b', o' + j, none⟩ = some u) (h1 : ∀ u ∈ news, u.oneCell' = true) (hroom : m + m' ≤ cap) (hfit : m * sz + news.length ≤ cur.length)
    (h : ∀ w', Upd w w' b el (lay cur (m * sz) news) → S w' ∧ ZS P n ops ks S r ((d, .slice (some ⟨b, 0, none⟩) (m + m') cap) :: e) w' Q) : ZS P n ops ks S (.all1 i r) e w Q := by
  obtain ⟨w', hr, hU⟩ := appendRoom_run (P := P) (n := n) (d := d) (ty := ty) (pos := pos) (aft := aft) (g := g) (t := t) hs hx hb hl hnews h1 hroom hfit
  obtain ⟨h4, h5⟩ := h w' hU
  exact zs_run hi hw rfl hdn hr h4 h5
theorem z_slice3 {B : Option Addr} {m c s j a b f : Nat} {a' b' f' : Int} {z : Value} {x y0 y1 y2 : Operand} {t el : TypeId} [hu : Und P t (.slice el)] [hz : Inf P el s j z] (hw : Want ops e g) (hdn : d < n) (hx : ev e x = some (.slice B m c)) (h0 : ev e y0 = some (.int .i64 a')) (h1 : ev e y1 = some (.int .i64 b')) (h2 : ev e y2 = some (.int .i64 f')) (ha : a' = (a : Int)) (hb : b' = (b : Int)) (hf : f' = (f : Int)) (hab : a ≤ b) (hbf : b ≤ f) (hc : f ≤ c)
    (h : ∀ v, ZL P n ops rest ((d, v) :: e) w Q) : ZL P n ops (⟨some d, .slice t x (some y0) (some y1) (some y2), ty, pos, aft, g⟩ :: rest) e w Q := by
  subst ha; subst hb; subst hf
  have hsz := hz.size w
  have k1 : (f : Int) ≤ c := by omega
  have k2 : (b : Int) ≤ f := by omega
  have k3 : (a : Int) ≤ b := by omega
  refine zl_run (w' := w) (v := .slice (if f = a then B else B.map (·.add (a * s))) (b - a) (f - a)) hw rfl hdn (fun A hA => ?_) (h _)
  simp [execOp, hA.ev hx, hA.ev h0, hA.ev h1, hA.ev h2, Instr.sliceAt, Instr.slice, run_underlying hu.eq, Instr.sliceBounds, Instr.sliceBound, asIntOf, hsz, k1, k2, k3]
  rw [if_pos hc, if_pos hbf, if_pos hab]
/-- a row of zero values -/
theorem z_clear {x : Operand} {t el : TypeId} {sz k m c b o : Nat} {z : Value} {cur zc : List Value} [hu : Und P t (.slice el)] [hz : Inf P el sz k z] (hw : Want ops e g)
    (hx : ev e x = some (.slice (some ⟨b, o, none⟩) m c)) (hb : Blk w b el cur) (hm : 0 < m) (hzc : (Builtin.zeroCells z.cells m).toList = zc) (hfit : o + zc.length ≤ cur.length) (h1 : ∀ u ∈ zc, u.oneCell' = true)
    (h : ∀ w', Upd w w' b el (lay cur o zc) → ZL P n ops rest e w' Q) : ZL P n ops (⟨none, .call { callee := .builtin .clear, args := #[x], argTypes := #[t] }, ty, pos, aft, g⟩ :: rest) e w Q := by
  unfold ZL at *
  intro a ha
  obtain ⟨i, hi1, hi2, hi3, hi4⟩ := hz.ex
  have hst := run_storeCells_at P b o el zc 0 cur.toArray w hb (by simpa using hfit) h1
  have hr : (execOp a.eval (⟨none, .call { callee := .builtin .clear, args := #[x], argTypes := #[t] }, ty, pos, aft, g⟩ : Oper)).run P w = .ok (.value (.tuple #[])) (w.setRow b (lay cur o zc).toArray) := by
    obtain ⟨m', rfl⟩ : ∃ k, m = k + 1 := ⟨m - 1, by omega⟩
    have hzv : (zeroValue el).run P w = .ok z w := by simp [zeroValue, typeInfo, hi1, hi4]
    simp only [Nat.add_zero] at hst
    simp [execOp, resolve, invoke, builtin, ha.ev hx, Builtin.clear_, run_underlying hu.eq, hzv, hzc, hst, lay]
  refine wpList_step fun K hK => ?_
  rw [if_pos (Want.wanted (o := ⟨none, .call { callee := .builtin .clear, args := #[x], argTypes := #[t] }, ty, pos, aft, g⟩) hw ha)]
  unfold Oper.wp
  rw [hr, Oper.upon_value]
  exact hK _ _ (h _ (Upd.setRow hb) a ha)
end
end Go.Z

namespace Go.Proofs.Yteeibieaapiomaa.D
open Go Go.Z Go.Proofs
set_option linter.unusedVariables false
/-- one entry taken out at i -/
def delC (cs : List Value) (i : Nat) : List Value := cs.take (i * 3) ++ cs.drop ((i + 1) * 3)
theorem del_list {A B R zc : List Value} {a m : Nat} (hm : a = m) (hA : (A ++ B).length = m) (hz : zc.length = 3) : Z.lay (A ++ B ++ R) a zc = A ++ B ++ (zc ++ R.drop 3) := by
  subst hm; subst hA
  unfold Z.lay
  rw [List.take_left, hz, List.drop_length_add_append, List.append_assoc]
theorem lay_mid {A B C : List Value} {a : Nat} (hA : A.length = a) : Z.lay (A ++ C) a B = A ++ B ++ C.drop B.length := by
  subst hA
  unfold Z.lay
  rw [List.take_left, List.drop_length_add_append]
def zc3 : List Value := [.int .i64 0, .int .i64 0, .string ⟨#[]⟩]
set_option maxRecDepth 100000 in
set_option maxHeartbeats 8000000 in
theorem sDel_calls {w : World} {vo : Value} {n i : Nat} {cs : List Value} (h : Own w 74 3 vo n cs) (hn : n ≤ 1000000) (hi : i < n) {i1 : Int} (hi1 : i1 = (i : Int) + 1) :
    Calls Try.prog 54 [vo, .int .i64 i, .int .i64 i1].toArray w fun x w' => ∃ v', x = .returned v' ∧ Own w' 74 3 v' (n - 1) (delC cs i) ∧ Chg w w' (fun k => vo.ownBlock = some k) ∧ v'.ownBlock = vo.ownBlock := by
  subst hi1
  have hcl := h.len
  rcases h.cases.2 with ⟨_, h0, _⟩ | ⟨b, cap, junk, rfl, hcap, hmax, hB, htot⟩
  · omega
  have hAl : (cs.take (i * 3)).length = i * 3 := by rw [List.length_take]; omega
  have hBl : (cs.drop ((i + 1) * 3)).length = (n - 1 - i) * 3 := by rw [List.length_drop]; omega
  refine calls_zc (n := 33) (f := 54) (fn := Try.f54) Try.func54 rfl rfl (by simp) ?_
  refine zc_seq ?_
  refine zc_region ?_
  refine zl_pureL rfl ?_
  refine zl_nil ?_
  refine zk_seq ?_
  refine zc_seq ?_
  refine zc_region ?_
  iterate 4 (refine zl_pureL rfl ?_)
  refine z_len want_none (by decide) rfl ?_
  refine z_slice3 (a := i) (b := i + 1) (f := n) (by first | exact want_none | exact want_L rfl) (by decide) rfl rfl rfl rfl rfl (by omega) (by omega) (by omega) (by omega) (by omega) (fun v13 => ?_)
  refine zl_nil ?_
  refine zk_seq ?_
  iterate 2 (refine zc_seq ?_)
  refine zc_region ?_
  iterate 2 (refine zl_pureL rfl ?_)
  refine z_cmpB (r := false) want_none (by decide) rfl rfl rfl (iff_of_false Bool.false_ne_true (by omega)) ?_
  refine zl_nil ?_
  refine zk_seq ?_
  refine zc_false rfl ?_
  refine zc_skip ?_
  refine zk_seq ?_
  refine zc_seq ?_
  refine zc_region ?_
  refine zl_pureL rfl ?_
  refine z_len want_none (by decide) rfl ?_
  refine zl_pureL rfl ?_
  refine zl_nil ?_
  refine zk_seq ?_
  refine zc_seq ?_
  refine zc_draw [] (fun w' => Chg w w' (· = b)) (.take 0 (.take 1 (.take 2 (.take 3 (.take 4 (.take 5 (.all1 6 (.take 7 (.fin))))))))) (by rfl) (by kernel_rfl) (by kernel_rfl) (fun w2 hC2 _ => ⟨?_, ?_⟩)
  · exact hC2.mono (fun _ _ h => h.elim)
  have hB2 := hB.no hC2
  iterate 2 (refine zs_take rfl (zt_pure rfl ?_))
  refine zs_rdL rfl (by first | exact want_none | exact want_L rfl) rfl (by decide) (fun _ hS => r_cutTo (k := i) (.inr ⟨_, _, rfl⟩) rfl rfl (by omega)) ?_
  iterate 2 (refine zs_take rfl (zt_pure rfl ?_))
  refine zs_rdL rfl (by first | exact want_none | exact want_L rfl) rfl (by decide) (fun _ hS => r_cutFrom (k := i + 1) rfl (optI_eq rfl (by omega)) (by omega) (by omega)) ?_
  obtain ⟨o', ho', ho⟩ : ∃ o', cutA (some ⟨b, 0, none⟩) cap (i + 1) 3 = some ⟨b, o', none⟩ ∧ (i + 1 < cap → o' = (i + 1) * 3) := by
    by_cases hc : i + 1 < cap
    · exact ⟨_, cutA_at hc, fun _ => by omega⟩
    · refine ⟨0, ?_, fun hh => absurd hh hc⟩
      unfold cutA; rw [if_pos (by omega)]
  rw [ho']
  skip
  have hne : ∀ j u, (cs.drop ((i + 1) * 3))[j]? = some u → w2.cell? ⟨b, o' + j, none⟩ = some u := fun j u hj => by
    have hjl := (List.getElem?_eq_some_iff.1 hj).1
    rw [hB2.cell, ho (by omega)]
    rw [List.getElem?_drop] at hj
    rw [List.getElem?_append_left (List.getElem?_eq_some_iff.1 hj).1]; exact hj
  refine zs_appendRoom (sz := 3) (news := cs.drop ((i + 1) * 3)) rfl (by first | exact want_none | exact want_L rfl) (by decide) rfl rfl hB2 (by rw [hBl]; congr 1; omega) hne (fun u hu => h.2 u (List.mem_of_mem_drop hu)) (by omega) (by rw [hBl, List.length_append]; omega) (fun w3 hU3 => ?_)
  refine ⟨(hC2.mono (fun _ _ h => h.elim)).trans hU3.chg (fun _ _ h => h), ?_⟩
  have hB3 := hU3.blk
  rw [show cs ++ junk = cs.take (i * 3) ++ (cs.drop (i * 3) ++ junk) by rw [← List.append_assoc, List.take_append_drop], lay_mid hAl] at hB3
  obtain ⟨R, hR⟩ : ∃ R, R = (cs.drop (i * 3) ++ junk).drop (cs.drop ((i + 1) * 3)).length := ⟨_, rfl⟩
  have hRl : R.length = cap * 3 - (n - 1) * 3 := by
    rw [hR, List.length_drop, List.length_append, List.length_drop, hBl]
    rw [List.length_append] at htot; omega
  rw [← hR] at hB3
  rw [show i + (n - (i + 1)) = n - 1 by omega]
  have hdl : (delC cs i).length = (n - 1) * 3 := by unfold delC; rw [List.length_append, hAl, hBl]; omega
  refine zs_take rfl (zt_pure rfl ?_)
  refine zs_fin ?_
  refine zk_seq ?_
  refine zc_seq ?_
  refine zc_region ?_
  iterate 2 (refine zl_pureL rfl ?_)
  refine z_len want_none (by decide) rfl ?_
  refine zl_pureL rfl ?_
  refine z_cutAB (n - 1) n (by first | exact want_none | exact want_L rfl) (by decide) rfl rfl rfl (by omega) (by omega) (by omega) (by omega) ?_
  rw [if_neg (by omega), Option.map_some, addr_add]
  skip
  refine z_clear (m := n - (n - 1)) (zc := zc3) (by first | exact want_none | exact want_L rfl) rfl hB3 (by omega) (by rw [show n - (n - 1) = 1 by omega]; kernel_rfl) (by show 0 + (n - 1) * 3 + 3 ≤ (delC cs i ++ R).length; rw [List.length_append, hdl, hRl]; omega) (by intro u hu; simp [zc3] at hu; rcases hu with rfl | rfl <;> rfl) (fun w4 hU4 => ?_)
  have hB4 := hU4.blk
  rw [Nat.zero_add] at hB4
  rw [del_list rfl (show (cs.take (i * 3) ++ cs.drop ((i + 1) * 3)).length = (n - 1) * 3 from hdl) rfl] at hB4
  refine zl_nil ?_
  refine zk_seq ?_
  refine zc_seq ?_
  refine zc_region ?_
  iterate 2 (refine zl_pureL rfl ?_)
  refine zl_nil ?_
  refine zk_seq ?_
  refine zc_ret ?_
  refine zk_ret1 (.inr rfl) rfl rfl ⟨_, rfl, Own.mk' (junk := zc3 ++ R.drop 3) hdl (by omega) hmax hB4 ?_ ?_, ?_, rfl⟩
  · show (delC cs i ++ (zc3 ++ R.drop 3)).length = cap * 3
    rw [List.length_append, hdl, List.length_append, List.length_drop, hRl]
    show (n - 1) * 3 + (3 + _) = _
    omega
  · intro u hu
    unfold delC at hu
    rcases List.mem_append.1 hu with hu | hu
    · exact h.2 u (List.mem_of_mem_take hu)
    · exact h.2 u (List.mem_of_mem_drop hu)
  · exact ((hC2.mono (fun _ _ h => h.elim)).trans hU3.chg (fun _ _ h => by rw [h]; rfl)).trans hU4.chg (fun _ _ h => by rw [h]; rfl)
end Go.Proofs.Yteeibieaapiomaa.D
/- SPut -/
/- A Site: place, Put, Drop, Swap. -/
namespace Go.Proofs.Yteeibieaapiomaa.D
open Go Go.Z Go.Proofs
set_option linter.unusedVariables false
def insE (E : List Ent) (i : Nat) (e : Ent) : List Ent := E.take i ++ [e] ++ E.drop i
def delE (E : List Ent) (i : Nat) : List Ent := E.take i ++ E.drop (i + 1)
theorem encE_ins (E : List Ent) (i : Nat) (e : Ent) : encE (insE E i e) = insC (encE E) i (encE [e]) := by
  unfold insE insC
  rw [encE_app, encE_app, encE_take, encE_drop]
theorem encE_del (E : List Ent) (i : Nat) : encE (delE E i) = delC (encE E) i := by
  unfold delE delC
  rw [encE_app, encE_take, encE_drop]
theorem insE_len (E : List Ent) (i : Nat) (e : Ent) (h : i ≤ E.length) : (insE E i e).length = E.length + 1 := by
  unfold insE
  simp only [List.length_append, List.length_take, List.length_drop, List.length_singleton]; omega
theorem delE_len (E : List Ent) (i : Nat) (h : i < E.length) : (delE E i).length = E.length - 1 := by
  unfold delE
  simp only [List.length_append, List.length_take, List.length_drop]; omega
theorem sInsG_calls {w wp : World} {vo : Value} {n i vb : Nat} {cs ec : List Value} (h : Own w 74 3 vo n cs) (hvb : Blk w vb 74 ec) (hec : ec.length = 3) (h1 : ∀ u ∈ ec, u.oneCell' = true) (hne : vo.ownBlock ≠ some vb) (hn : n ≤ 1000000) (hi : i ≤ n) :
    Calls Try.prog 52 [vo, .int .i64 i, .slice (some ⟨vb, 0, none⟩) 1 1].toArray w fun x w' => ∃ v', x = .returned v' ∧ Own w' 74 3 v' (n + 1) (insC cs i ec) ∧ Chg w w' (fun k => vo.ownBlock = some k) ∧ (v'.ownBlock = vo.ownBlock ∨ ∃ k, v'.ownBlock = some k ∧ w.heap.size ≤ k) := by
  rcases Nat.lt_or_ge i n with hlt | hge
  · exact sIns_calls h hvb hec h1 hne hn hlt
  · obtain rfl : i = n := by omega
    have hr : RdS w 74 3 (.slice (some ⟨vb, 0, none⟩) 1 1) 1 ec := RdS.blk hvb (by omega) (Nat.le_refl _) h1 0 (fun j u hj => by simpa using hj)
    refine (sInsEnd_calls h hr hn).mono ?_
    rintro x w' ⟨v', rfl, h2, h3, h4⟩
    refine ⟨v', rfl, ?_, h3, h4⟩
    have : insC cs i ec = cs ++ ec := by
      unfold insC
      have := h.len
      rw [List.take_of_length_le (by omega), List.drop_of_length_le (by omega), List.append_nil]
    rw [this]; exact h2
section
variable {w w' w1 w2 : World} {s : Nat} {q : SP} {E : List Ent} {I : List Bool} {m : ByteArray → Int} {N : List ND} {f : Bool}
/-- where an element stands -/
def PlcR (E : List Ent) (n r : Int) : Prop := r = -1 ∨ ∃ k : Nat, r = k ∧ 1 ≤ k ∧ k < E.length ∧ (E.getD k en0).n = n
set_option maxHeartbeats 8000000 in
theorem sPlace_calls (h : IsS w s q E I m N f) (hE0 : 0 < E.length) (hE : E.length ≤ 1000000) (n : Int) : Calls Try.prog 53 [.pointer (some ⟨s, 0, none⟩), .int .i64 n].toArray w fun x w' => ∃ r, x = .returned (.int .i64 r) ∧ PlcR E n r ∧ Chg w w' No := by
  have hb := h.blk
  obtain ⟨A, c, hv, hc⟩ := h.own.rd.form
  rw [hv] at hb
  refine calls_zc (n := 35) (f := 53) (fn := Try.f53) Try.func53 rfl rfl (by simp) ?_
  by_cases h0 : n = 0
  · refine zc_seq ?_
    refine zc_region ?_
    refine zl_pureL rfl ?_
    refine zl_nil ?_
    refine zk_seq ?_
    iterate 2 (refine zc_seq ?_)
    refine zc_region ?_
    refine zl_pureL rfl ?_
    refine z_cmpB (r := true) want_none (by decide) rfl rfl rfl (iff_of_true rfl (by omega)) ?_
    iterate 3 (refine zl_pureL rfl ?_)
    refine zl_skip rfl ?_
    iterate 2 (refine zl_pureL rfl ?_)
    refine zl_nil ?_
    refine zk_seq ?_
    refine zc_true rfl ?_
    refine zc_seq ?_
    refine zc_region ?_
    refine zl_pureL rfl ?_
    refine zl_nil ?_
    refine zk_seq ?_
    refine zc_ret ?_
    refine zk_ret_then ?_
    exact zk_ret1 (.inr rfl) rfl rfl ⟨_, rfl, .inl rfl, Chg.refl _ _⟩
  refine zc_seq ?_
  refine zc_region ?_
  refine zl_pureL rfl ?_
  refine zl_nil ?_
  refine zk_seq ?_
  iterate 2 (refine zc_seq ?_)
  refine zc_region ?_
  refine zl_pureL rfl ?_
  refine z_cmpB (r := false) want_none (by decide) rfl rfl rfl (iff_of_false Bool.false_ne_true (by omega)) ?_
  iterate 3 (refine zl_pureL rfl ?_)
  refine zl_call (by first | exact want_none | exact want_L rfl) rfl (by decide) rfl (sOpened_calls h n) ?_
  rintro _ u ⟨rfl, hu⟩
  obtain rfl := hu.symm
  refine ⟨_, rfl, ?_⟩
  by_cases ho : opn I n
  rotate_left
  · rw [decide_eq_false ho]
    iterate 2 (refine zl_pureL rfl ?_)
    refine zl_nil ?_
    refine zk_seq ?_
    refine zc_true rfl ?_
    refine zc_seq ?_
    refine zc_region ?_
    refine zl_pureL rfl ?_
    refine zl_nil ?_
    refine zk_seq ?_
    refine zc_ret ?_
    refine zk_ret_then ?_
    exact zk_ret1 (.inr rfl) rfl rfl ⟨_, rfl, .inl rfl, Chg.refl _ _⟩
  rw [decide_eq_true ho]
  iterate 2 (refine zl_pureL rfl ?_)
  refine zl_nil ?_
  refine zk_seq ?_
  refine zc_false rfl ?_
  refine zc_skip ?_
  refine zk_seq ?_
  iterate 2 (refine zc_seq ?_)
  refine zc_region ?_
  iterate 2 (refine zl_pureL rfl ?_)
  refine z_fa want_none (by decide) rfl ?_
  refine z_loadB want_none (by decide) rfl (by assumption) (by rfl) ?_
  refine z_len want_none (by decide) rfl ?_
  refine z_sub want_none (by decide) rfl rfl (by omega) (by omega) ?_
  refine zl_pureL rfl ?_
  refine zl_nil ?_
  refine zk_seq ?_
  refine zc_block ?_
  refine zc_loopW (ι := Nat) (fun k u => [(0, .pointer (some ⟨s, 0, none⟩)), (1, .int .i64 n), (5, .int .i64 (k : Nat))]) (fun k u => k ≤ E.length - 1 ∧ u = w) (fun k u => k) (E.length - 1) ⟨Nat.le_refl _, rfl⟩ ?_ ?_
  · exact ⟨rfl, rfl, get_int rfl (by omega), trivial⟩
  rintro k u ⟨hk, rfl⟩
  cases k with
  | zero =>
    iterate 2 (refine zc_seq ?_)
    refine zc_region ?_
    refine zl_pureL rfl ?_
    refine z_cmpB (r := false) want_none (by decide) rfl rfl rfl (iff_of_false Bool.false_ne_true (by omega)) ?_
    refine zl_nil ?_
    refine zk_seq ?_
    refine zc_false rfl ?_
    refine zc_exit ?_
    iterate 2 (refine zk_exit_then ?_)
    refine zk_exit_block ?_
    refine zk_seq ?_
    refine zc_seq ?_
    refine zc_region ?_
    refine zl_pureL rfl ?_
    refine zl_nil ?_
    refine zk_seq ?_
    refine zc_ret ?_
    exact zk_ret1 (.inr rfl) rfl rfl ⟨_, rfl, .inl rfl, Chg.refl _ _⟩
  | succ k =>
    obtain ⟨b, o, c', hv', h0', _, _⟩ := h.at_ (k + 1) (by omega)
    rw [hv] at hv'
    cases hv'
    iterate 2 (refine zc_seq ?_)
    refine zc_region ?_
    refine zl_pureL rfl ?_
    refine z_cmpB (r := true) want_none (by decide) rfl rfl rfl (iff_of_true rfl (by omega)) ?_
    refine zl_nil ?_
    refine zk_seq ?_
    refine zc_true rfl ?_
    refine zc_skip ?_
    refine zk_seq ?_
    refine zc_seq ?_
    refine zc_block ?_
    refine zc_seq ?_
    refine zc_region ?_
    iterate 2 (refine zl_pureL rfl ?_)
    refine z_fa want_none (by decide) rfl ?_
    refine z_loadB want_none (by decide) rfl (by assumption) (by rfl) ?_
    refine zl_pureL rfl ?_
    refine z_ia want_none (by decide) rfl rfl (by omega) (by omega) ?_
    refine z_fa want_none (by decide) rfl ?_
    refine z_load1 want_none (by decide) rfl (by assumption) ?_
    refine zl_pureL rfl ?_
    by_cases hq : ((E.getD (k + 1) en0).n : Int) = n
    · refine z_cmpB (r := true) want_none (by decide) rfl rfl rfl (iff_of_true rfl (by omega)) ?_
      refine zl_nil ?_
      refine zk_seq ?_
      refine zc_true rfl ?_
      refine zc_seq ?_
      refine zc_region ?_
      iterate 2 (refine zl_pureL rfl ?_)
      refine zl_nil ?_
      refine zk_seq ?_
      refine zc_ret ?_
      refine zk_ret_block ?_
      iterate 2 (refine zk_ret_then ?_)
      refine zk_ret_block ?_
      refine zk_ret_then ?_
      exact zk_ret1 (.inr rfl) rfl rfl ⟨_, rfl, .inr ⟨k + 1, rfl, by omega, by omega, hq⟩, Chg.refl _ _⟩
    · refine z_cmpB (r := false) want_none (by decide) rfl rfl rfl (iff_of_false Bool.false_ne_true (by omega)) ?_
      refine zl_nil ?_
      refine zk_seq ?_
      refine zc_false rfl ?_
      refine zc_skip ?_
      refine zk_norm_block ?_
      refine zk_seq ?_
      refine zc_region ?_
      refine zl_pureL rfl ?_
      refine z_sub want_none (by decide) rfl rfl (by omega) (by omega) ?_
      refine zl_pureL rfl ?_
      refine zl_nil ?_
      refine zk_loopW k ⟨by omega, rfl⟩ (by omega) ⟨rfl, rfl, get_int rfl (by omega), trivial⟩
set_option maxRecDepth 100000 in
set_option maxHeartbeats 16000000 in
theorem sPut_calls (h : IsS w s q E I m N f) (hB : BigT N) (i n : Int) (hN : N.length ≤ 1000000) (hE0 : 0 < E.length) (hE : E.length ≤ 900000) (hI : I.length ≤ 1000000) (hm : SmallM m) :
    Calls Try.prog 16 [.pointer (some ⟨s, 0, none⟩), .int .i64 i, .int .i64 n].toArray w fun x w' => ∃ p vo vi, x = .returned (.bool p) ∧ WrS w w' s q { q with vo := vo, vi := vi } ∧
      ((p = true ∧ freshB N I n = true ∧ (1 ≤ i ∧ i ≤ E.length) ∧ IsS w' s { q with vo := vo, vi := vi } (insE E i.toNat (entN N n.toNat)) (comI I n.toNat) (cntM m (entN N n.toNat) 1) N f) ∨ (p = false ∧ IsS w' s { q with vo := vo, vi := vi } E I m N f)) := by
  have hb := h.blk
  obtain ⟨A, c, hv, hc⟩ := h.own.rd.form
  refine calls_zc (n := 44) (f := 16) (fn := Try.f16) Try.func16 rfl rfl (by simp) ?_
  refine zc_seq ?_
  refine zc_region ?_
  refine zl_pureL rfl ?_
  refine zl_nil ?_
  refine zk_seq ?_
  refine zc_seq ?_
  refine zc_region ?_
  iterate 2 (refine zl_pureL rfl ?_)
  refine zl_call (by first | exact want_none | exact want_L rfl) rfl (by decide) rfl (sFresh_calls h hB n) ?_
  rintro _ w1 ⟨rfl, hC1⟩
  refine ⟨_, rfl, ?_⟩
  iterate 3 (refine zl_pureL rfl ?_)
  refine z_alloc (by first | exact want_none | exact want_L rfl) (by decide) (fun w2 b2 hN2 => ?_)
  have hb2 : Blk w2 b2 74 [.int .i64 0, .int .i64 0, .string ⟨#[]⟩] := hN2.blk
  refine z_store (by first | exact want_none | exact want_L rfl) rfl rfl rfl (by assumption) (by first | exact Nat.le_refl _ | simp [Value.cells]) (by simp [Value.cells, Value.oneCell']) (fun w3 hU3 => ?_)
  have hb3 : Blk w3 b2 74 [.int .i64 n, .int .i64 (nodeOf N n).space, .string (nodeOf N n).name] := hU3.blk
  have hC3 : Chg w w3 No := (hC1.no hN2.chg).upd hU3 (by have := hN2.at_; have := hC1.size; omega)
  have h3 := h.no hC3
  have hbs3 := h3.blk
  rw [hv] at hbs3
  cases hfr : freshB N I n
  · refine zl_pureL rfl ?_
    refine zl_nil ?_
    refine zk_seq ?_
    iterate 2 (refine zc_seq ?_)
    refine zc_region ?_
    iterate 4 (refine zl_pureL rfl ?_)
    refine zl_skip rfl ?_
    iterate 5 (refine zl_pureL rfl ?_)
    iterate 4 (refine zl_skip rfl ?_)
    refine zl_pureL rfl ?_
    refine zl_nil ?_
    refine zk_seq ?_
    refine zc_true rfl ?_
    refine zc_seq ?_
    refine zc_region ?_
    refine zl_pureL rfl ?_
    refine zl_nil ?_
    refine zk_seq ?_
    refine zc_ret ?_
    refine zk_ret_then ?_
    exact zk_ret1 (.inr rfl) rfl rfl ⟨_, q.vo, q.vi, rfl, WrS.of_no hC3 _ _, .inr ⟨rfl, h3⟩⟩
  have hfr' := hfr
  unfold freshB at hfr'
  rw [decide_eq_true_eq] at hfr'
  have hin : isN N n := by
    have := hfr'.1
    unfold nodeOf at this
    split at this
    · assumption
    · simp [n0] at this
  obtain ⟨k, rfl⟩ : ∃ k : Nat, n = k := ⟨n.toNat, by have := hin.1; omega⟩
  have hnd : nodeOf N (k : Nat) = N.getD k n0 := if_pos hin
  have hkN : k < N.length := by have := hin.2; omega
  rw [hnd] at hb3
  rw [hnd]
  by_cases hi1 : i < 1
  · refine zl_pureL rfl ?_
    refine zl_nil ?_
    refine zk_seq ?_
    iterate 2 (refine zc_seq ?_)
    refine zc_region ?_
    iterate 4 (refine zl_pureL rfl ?_)
    refine z_cmpB (r := true) (want_L rfl) (by decide) rfl rfl rfl (iff_of_true rfl (by omega)) ?_
    iterate 5 (refine zl_pureL rfl ?_)
    iterate 4 (refine zl_skip rfl ?_)
    refine zl_pureL rfl ?_
    refine zl_nil ?_
    refine zk_seq ?_
    refine zc_true rfl ?_
    refine zc_seq ?_
    refine zc_region ?_
    refine zl_pureL rfl ?_
    refine zl_nil ?_
    refine zk_seq ?_
    refine zc_ret ?_
    refine zk_ret_then ?_
    exact zk_ret1 (.inr rfl) rfl rfl ⟨_, q.vo, q.vi, rfl, WrS.of_no hC3 _ _, .inr ⟨rfl, h3⟩⟩
  obtain ⟨j, rfl⟩ : ∃ j : Nat, i = j := ⟨i.toNat, by omega⟩
  by_cases hi2 : (j : Int) > E.length
  · refine zl_pureL rfl ?_
    refine zl_nil ?_
    refine zk_seq ?_
    iterate 2 (refine zc_seq ?_)
    refine zc_region ?_
    iterate 4 (refine zl_pureL rfl ?_)
    refine z_cmpB (r := false) (want_L rfl) (by decide) rfl rfl rfl (iff_of_false Bool.false_ne_true (by omega)) ?_
    iterate 5 (refine zl_pureL rfl ?_)
    refine z_fa (want_L rfl) (by decide) rfl ?_
    refine z_loadB (want_L rfl) (by decide) rfl (by assumption) (by rfl) ?_
    refine z_len (want_L rfl) (by decide) rfl ?_
    refine z_cmpB (r := true) (want_L rfl) (by decide) rfl rfl rfl (iff_of_true rfl (by omega)) ?_
    refine zl_pureL rfl ?_
    refine zl_nil ?_
    refine zk_seq ?_
    refine zc_true rfl ?_
    refine zc_seq ?_
    refine zc_region ?_
    refine zl_pureL rfl ?_
    refine zl_nil ?_
    refine zk_seq ?_
    refine zc_ret ?_
    refine zk_ret_then ?_
    exact zk_ret1 (.inr rfl) rfl rfl ⟨_, q.vo, q.vi, rfl, WrS.of_no hC3 _ _, .inr ⟨rfl, h3⟩⟩
  refine zl_pureL rfl ?_
  refine zl_nil ?_
  refine zk_seq ?_
  iterate 2 (refine zc_seq ?_)
  refine zc_region ?_
  iterate 4 (refine zl_pureL rfl ?_)
  refine z_cmpB (r := false) (want_L rfl) (by decide) rfl rfl rfl (iff_of_false Bool.false_ne_true (by omega)) ?_
  iterate 5 (refine zl_pureL rfl ?_)
  refine z_fa (want_L rfl) (by decide) rfl ?_
  refine z_loadB (want_L rfl) (by decide) rfl (by assumption) (by rfl) ?_
  refine z_len (want_L rfl) (by decide) rfl ?_
  refine z_cmpB (r := false) (want_L rfl) (by decide) rfl rfl rfl (iff_of_false Bool.false_ne_true (by omega)) ?_
  refine zl_pureL rfl ?_
  refine zl_nil ?_
  refine zk_seq ?_
  refine zc_false rfl ?_
  refine zc_skip ?_
  refine zk_seq ?_
  refine zc_seq ?_
  refine zc_region ?_
  refine zl_pureL rfl ?_
  refine z_loadAB want_none (by decide) rfl (by assumption) (by rfl) ?_
  refine zl_call (by first | exact want_none | exact want_L rfl) rfl (by decide) rfl (sComes_calls h3 (entN N k) (show k ≤ 1000000 by omega) hI hm) ?_
  rintro _ w4 ⟨rfl, vi, h4, hW4⟩
  refine ⟨_, rfl, ?_⟩
  have hs4 := hW4.chg.size
  have hb4 : Blk w4 b2 74 [.int .i64 k, .int .i64 (N.getD k n0).space, .string (N.getD k n0).name] := hb3.chg hW4.chg (fun hf => by
    have := hN2.at_
    have := hC1.size
    have hlt := h.lt b2 (by simpa [footS] using hf)
    omega)
  have hbs4 := h4.blk
  dsimp only at hbs4
  rw [hv] at hbs4
  refine zl_nil ?_
  refine zk_seq ?_
  refine zc_seq ?_
  refine zc_draw [11] (fun w' => Blk w' s 72 [.pointer (some ⟨q.pd, 0, none⟩), .pointer (some ⟨q.pm, 0, none⟩), .slice A E.length c, vi, .map (some q.r), .bool f] ∧ Blk w' b2 74 [.int .i64 k, .int .i64 (N.getD k n0).space, .string (N.getD k n0).name]) (.take 0 (.take 1 (.take 2 (.take 3 (.take 4 (.take 5 (.take 6 (.all1 7 (.all1 8 (.plain 9 (.take 10 (.last 11)))))))))))) (by rfl) (by kernel_rfl) (by kernel_rfl) (fun w5 hC5 _ => ⟨?_, ?_⟩)
  · exact ⟨hbs4.no hC5, hb4.no hC5⟩
  iterate 3 (refine zs_take rfl (zt_pure rfl ?_))
  refine zs_rdL rfl want_none rfl (by decide) (fun _ hS => r_fa rfl) ?_
  refine zs_rdL rfl want_none rfl (by decide) (fun _ hS => r_loadB rfl hS.1 (by rfl)) ?_
  refine zs_take rfl (zt_pure rfl ?_)
  refine zs_rdL rfl want_none rfl (by decide) (fun _ hS => r_loadAB rfl hS.2 (by rfl)) ?_
  refine zs_bs1 rfl (by first | exact want_none | exact want_L rfl) (by decide) rfl (by rfl) (by rfl) (by decide) (by decide) (fun w6 b6 hN6 => ?_)
  have h6 := (h4.no hC5).no hN6.chg
  have hb6s := (hbs4.no hC5).no hN6.chg
  have hb6 := (hb4.no hC5).no hN6.chg
  refine ⟨⟨hb6s, hb6⟩, ?_⟩
  have hvb6 : Blk w6 b6 74 (encE [entN N k]) := hN6.blk
  have hO6 := h6.own
  dsimp only at hO6
  skip
  refine zs_call rfl (by first | exact want_none | exact want_L rfl) rfl (by decide) rfl (sInsG_calls (wp := w6) (by rw [hv] at hO6; exact hO6) hvb6 rfl (encE_one _) (fun he => by
    rw [← hv] at he
    have := h.own.lt he
    have := hN6.at_
    have := hC5.size
    have := hC3.size
    omega) (by omega) (show j ≤ E.length by omega)) ?_
  rintro _ w7 ⟨v7, rfl, hO7, hX7, hr7⟩
  have hR7 : OneT w6 74 (fun k => (Value.slice A E.length c).ownBlock = some k) := fun k hk => by rw [← hv] at hk; exact hO6.blk hk
  have hb7s := hb6s.typ hX7 hR7 (by decide)
  have hb7 := hb6.chg hX7 (fun he => by
    rw [← hv] at he
    have := h.own.lt he
    have := hN2.at_
    have := hC1.size
    omega)
  refine ⟨_, rfl, ⟨hb7s, hb7⟩, ?_⟩
  obtain ⟨A7, c7, hv7, _⟩ := hO7.rd.form
  subst hv7
  refine zs_plainL rfl rfl ?_
  refine zs_rdL rfl want_none rfl (by decide) (fun _ hS => r_fa rfl) ?_
  refine zs_storeL rfl (by first | exact want_none | exact want_L rfl) rfl rfl rfl (by assumption) (by first | exact Nat.le_refl _ | simp [Value.cells]) (by simp [Value.cells, Value.oneCell']) (fun w8 hU8 => ?_)
  obtain ⟨g1, g2⟩ := h6.growO (E' := insE E j (entN N k)) (v := .slice A7 (E.length + 1) c7) (by dsimp only; rw [hv]; exact hX7) (by rw [insE_len _ _ _ (by omega), encE_ins]; exact hO7) (by dsimp only; rw [hv]; exact hr7) hU8
  refine zk_seq ?_
  refine zc_seq ?_
  refine zc_region ?_
  refine zl_pureL rfl ?_
  refine zl_nil ?_
  refine zk_seq ?_
  refine zc_ret ?_
  exact zk_ret1 (.inr rfl) rfl rfl ⟨_, _, vi, rfl, ((WrS.of_no hC3 _ _).trans hW4).trans (((WrS.of_no hC5 _ _).no hN6.chg).trans g2), .inl ⟨rfl, rfl, ⟨by omega, by omega⟩, g1⟩⟩
end
end Go.Proofs.Yteeibieaapiomaa.D
/- SDrop -/
/- A Site: Drop, Swap, Open. -/
namespace Go.Proofs.Yteeibieaapiomaa.D
open Go Go.Z Go.Proofs
set_option linter.unusedVariables false
section
variable {w w' w1 w2 : World} {s : Nat} {q : SP} {E : List Ent} {I : List Bool} {m : ByteArray → Int} {N : List ND} {f : Bool}
set_option maxRecDepth 100000 in
set_option maxHeartbeats 8000000 in
theorem sDrop_calls (h : IsS w s q E I m N f) (hE0 : 0 < E.length) (hE : E.length ≤ 1000000) (hI : ∀ k, k < E.length → (E.getD k en0).n < I.length) (hm : SmallM m) (n : Int) :
    Calls Try.prog 18 [.pointer (some ⟨s, 0, none⟩), .int .i64 n].toArray w fun x w' => ∃ p vo, x = .returned (.bool p) ∧ WrS w w' s q { q with vo := vo } ∧
      ((p = true ∧ ∃ k, 1 ≤ k ∧ k < E.length ∧ (E.getD k en0).n = n ∧ IsS w' s { q with vo := vo } (delE E k) (I.set (E.getD k en0).n false) (cntM m (E.getD k en0) (-1)) N f) ∨ (p = false ∧ IsS w' s { q with vo := vo } E I m N f)) := by
  refine calls_zc (n := 31) (f := 18) (fn := Try.f18) Try.func18 rfl rfl (by simp) ?_
  refine zc_seq ?_
  refine zc_region ?_
  refine zl_pureL rfl ?_
  refine zl_nil ?_
  refine zk_seq ?_
  refine zc_seq ?_
  refine zc_region ?_
  iterate 2 (refine zl_pureL rfl ?_)
  refine zl_call (by first | exact want_none | exact want_L rfl) rfl (by decide) rfl (sPlace_calls h hE0 hE n) ?_
  rintro _ w1 ⟨r, rfl, hr, hC1⟩
  refine ⟨_, rfl, ?_⟩
  have h1 := h.no hC1
  rcases hr with rfl | ⟨k, rfl, hk1, hkE, hkn⟩
  · refine zl_pureL rfl ?_
    refine zl_nil ?_
    refine zk_seq ?_
    iterate 2 (refine zc_seq ?_)
    refine zc_region ?_
    refine zl_pureL rfl ?_
    refine z_cmpB (r := true) want_none (by decide) rfl rfl rfl (iff_of_true rfl (by omega)) ?_
    refine zl_nil ?_
    refine zk_seq ?_
    refine zc_true rfl ?_
    refine zc_seq ?_
    refine zc_region ?_
    refine zl_pureL rfl ?_
    refine zl_nil ?_
    refine zk_seq ?_
    refine zc_ret ?_
    refine zk_ret_then ?_
    exact zk_ret1 (.inr rfl) rfl rfl ⟨_, q.vo, rfl, WrS.of_no hC1 _ _, .inr ⟨rfl, h1⟩⟩
  obtain ⟨b, o, c, hv, g0, g1, g2⟩ := h1.at_ k hkE
  obtain ⟨en, hen⟩ : ∃ en, en = E.getD k en0 := ⟨_, rfl⟩
  rw [← hen] at g0 g1 g2 hkn
  have hb := h1.blk
  rw [hv] at hb
  refine zl_pureL rfl ?_
  refine zl_nil ?_
  refine zk_seq ?_
  iterate 2 (refine zc_seq ?_)
  refine zc_region ?_
  refine zl_pureL rfl ?_
  refine z_cmpB (r := false) want_none (by decide) rfl rfl rfl (iff_of_false Bool.false_ne_true (by omega)) ?_
  refine zl_nil ?_
  refine zk_seq ?_
  refine zc_false rfl ?_
  refine zc_skip ?_
  refine zk_seq ?_
  refine zc_seq ?_
  refine zc_region ?_
  iterate 3 (refine zl_pureL rfl ?_)
  refine z_fa want_none (by decide) rfl ?_
  refine z_loadB want_none (by decide) rfl (by assumption) (by rfl) ?_
  refine zl_pureL rfl ?_
  refine z_ia want_none (by decide) rfl rfl (by omega) (by omega) ?_
  refine z_loadA (by rfl) (by first | exact want_none | exact want_L rfl) (by decide) rfl (agg3 g0 g1 g2 (by omega)) ?_
  refine zl_call (by first | exact want_none | exact want_L rfl) rfl (by decide) rfl (sGoes_calls h1 en (by rw [hen]; exact hI k hkE) hm) ?_
  rintro _ w2 ⟨rfl, h2, hW2⟩
  refine ⟨_, rfl, ?_⟩
  have hb2 := h2.blk
  rw [hv] at hb2
  have hO2 := h2.own
  rw [hv] at hO2
  refine zl_nil ?_
  refine zk_seq ?_
  refine zc_seq ?_
  refine zc_region ?_
  iterate 3 (refine zl_pureL rfl ?_)
  refine z_fa want_none (by decide) rfl ?_
  refine z_loadB want_none (by decide) rfl (by assumption) (by rfl) ?_
  iterate 2 (refine zl_pureL rfl ?_)
  refine z_add want_none (by decide) rfl rfl (by omega) (by omega) ?_
  refine zl_call (by first | exact want_none | exact want_L rfl) rfl (by decide) rfl (sDel_calls hO2 (by omega) hkE (i1 := (k : Int) + 1) rfl) ?_
  rintro _ w3 ⟨v3, rfl, hO3, hX3, ho3⟩
  refine ⟨_, rfl, ?_⟩
  have hb3 := hb2.typ hX3 (fun j hj => hO2.blk hj) (by decide)
  obtain ⟨A3, c3, hv3, _⟩ := hO3.rd.form
  subst hv3
  refine zl_pureL rfl ?_
  refine z_fa want_none (by decide) rfl ?_
  refine z_store (by first | exact want_none | exact want_L rfl) rfl rfl rfl (by assumption) (by first | exact Nat.le_refl _ | simp [Value.cells]) (by simp [Value.cells, Value.oneCell']) (fun w4 hU4 => ?_)
  obtain ⟨g5, g6⟩ := h2.growO (E' := delE E k) (v := .slice A3 (E.length - 1) c3) (by rw [hv]; exact hX3) (by rw [delE_len _ _ hkE, encE_del]; exact hO3) (by rw [hv]; exact .inl ho3) hU4
  refine zl_nil ?_
  refine zk_seq ?_
  refine zc_seq ?_
  refine zc_region ?_
  refine zl_pureL rfl ?_
  refine zl_nil ?_
  refine zk_seq ?_
  refine zc_ret ?_
  exact zk_ret1 (.inr rfl) rfl rfl ⟨_, _, rfl, ((WrS.of_no hC1 _ _).trans hW2).trans g6, .inl ⟨rfl, k, hk1, hkE, by rw [← hen]; exact hkn, by rw [← hen]; exact g5⟩⟩
theorem encE_set (E : List Ent) (k : Nat) (e : Ent) (hk : k < E.length) : encE (E.set k e) = Z.lay (encE E) (k * 3) e.cells := by
  rw [List.set_eq_take_append_cons_drop, if_pos hk]
  unfold Z.lay
  rw [encE_app, encE_take]
  show _ ++ (e.cells ++ encE (E.drop (k + 1))) = _
  have hl : e.cells.length = 3 := rfl
  rw [encE_drop, List.append_assoc, hl, Nat.succ_mul]
set_option maxRecDepth 100000 in
set_option maxHeartbeats 16000000 in
theorem sSwap_calls (h : IsS w s q E I m N f) (hB : BigT N) (hN : N.length ≤ 1000000) (hE0 : 0 < E.length) (hE : E.length ≤ 1000000) (hI : ∀ k, k < E.length → (E.getD k en0).n < I.length) (hI2 : I.length ≤ 1000000) (hm : SmallM m) (hm2 : ∀ e ∈ E, SmallM (cntM m e (-1))) (n n2 : Int) :
    Calls Try.prog 17 [.pointer (some ⟨s, 0, none⟩), .int .i64 n, .int .i64 n2].toArray w fun x w' => ∃ p vo vi, x = .returned (.bool p) ∧ WrS w w' s q { q with vo := vo, vi := vi } ∧
      ((p = true ∧ freshB N I n2 = true ∧ ∃ k, 1 ≤ k ∧ k < E.length ∧ (E.getD k en0).n = n ∧ IsS w' s { q with vo := vo, vi := vi } (E.set k (entN N n2.toNat)) (comI (I.set (E.getD k en0).n false) n2.toNat) (cntM (cntM m (E.getD k en0) (-1)) (entN N n2.toNat) 1) N f) ∨ (p = false ∧ IsS w' s { q with vo := vo, vi := vi } E I m N f)) := by
  refine calls_zc (n := 44) (f := 17) (fn := Try.f17) Try.func17 rfl rfl (by simp) ?_
  refine zc_seq ?_
  refine zc_region ?_
  refine zl_pureL rfl ?_
  refine zl_nil ?_
  refine zk_seq ?_
  refine zc_seq ?_
  refine zc_region ?_
  iterate 2 (refine zl_pureL rfl ?_)
  refine zl_call (by first | exact want_none | exact want_L rfl) rfl (by decide) rfl (sPlace_calls h hE0 hE n) ?_
  rintro _ w0 ⟨r, rfl, hr, hC0⟩
  refine ⟨_, rfl, ?_⟩
  have h0 := h.no hC0
  refine zl_pureL rfl ?_
  refine zl_nil ?_
  refine zk_seq ?_
  refine zc_seq ?_
  refine zc_region ?_
  iterate 2 (refine zl_pureL rfl ?_)
  refine zl_call (by first | exact want_none | exact want_L rfl) rfl (by decide) rfl (sFresh_calls h0 hB n2) ?_
  rintro _ w1 ⟨rfl, hC1⟩
  refine ⟨_, rfl, ?_⟩
  iterate 3 (refine zl_pureL rfl ?_)
  refine z_alloc (by first | exact want_none | exact want_L rfl) (by decide) (fun w2 b2 hN2 => ?_)
  have hb2 : Blk w2 b2 74 [.int .i64 0, .int .i64 0, .string ⟨#[]⟩] := hN2.blk
  refine z_store (by first | exact want_none | exact want_L rfl) rfl rfl rfl (by assumption) (by first | exact Nat.le_refl _ | simp [Value.cells]) (by simp [Value.cells, Value.oneCell']) (fun w3 hU3 => ?_)
  have hb3 : Blk w3 b2 74 [.int .i64 n2, .int .i64 (nodeOf N n2).space, .string (nodeOf N n2).name] := hU3.blk
  have hC03 : Chg w0 w3 No := (hC1.no hN2.chg).upd hU3 (by have := hN2.at_; have := hC1.size; omega)
  have hC3 : Chg w w3 No := hC0.no hC03
  have h3 := h.no hC3
  have hge2 : w.heap.size ≤ b2 := by have := hN2.at_; have := hC1.size; have := hC0.size; omega
  rcases hr with rfl | ⟨k, rfl, hk1, hkE, hkn⟩
  · refine zl_pureL rfl ?_
    refine zl_nil ?_
    refine zk_seq ?_
    iterate 2 (refine zc_seq ?_)
    refine zc_region ?_
    refine zl_pureL rfl ?_
    refine z_cmpB (r := true) want_none (by decide) rfl rfl rfl (iff_of_true rfl (by omega)) ?_
    iterate 4 (refine zl_pureL rfl ?_)
    refine zl_nil ?_
    refine zk_seq ?_
    refine zc_true rfl ?_
    refine zc_seq ?_
    refine zc_region ?_
    refine zl_pureL rfl ?_
    refine zl_nil ?_
    refine zk_seq ?_
    refine zc_ret ?_
    refine zk_ret_then ?_
    exact zk_ret1 (.inr rfl) rfl rfl ⟨_, q.vo, q.vi, rfl, WrS.of_no hC3 _ _, .inr ⟨rfl, h3⟩⟩
  cases hfr : freshB N I n2
  · refine zl_pureL rfl ?_
    refine zl_nil ?_
    refine zk_seq ?_
    iterate 2 (refine zc_seq ?_)
    refine zc_region ?_
    refine zl_pureL rfl ?_
    refine z_cmpB (r := false) want_none (by decide) rfl rfl rfl (iff_of_false Bool.false_ne_true (by omega)) ?_
    iterate 4 (refine zl_pureL rfl ?_)
    refine zl_nil ?_
    refine zk_seq ?_
    refine zc_true rfl ?_
    refine zc_seq ?_
    refine zc_region ?_
    refine zl_pureL rfl ?_
    refine zl_nil ?_
    refine zk_seq ?_
    refine zc_ret ?_
    refine zk_ret_then ?_
    exact zk_ret1 (.inr rfl) rfl rfl ⟨_, q.vo, q.vi, rfl, WrS.of_no hC3 _ _, .inr ⟨rfl, h3⟩⟩
  have hfr' := hfr
  unfold freshB at hfr'
  rw [decide_eq_true_eq] at hfr'
  have hin : isN N n2 := by
    have := hfr'.1
    unfold nodeOf at this
    split at this
    · assumption
    · simp [n0] at this
  obtain ⟨j, rfl⟩ : ∃ k : Nat, n2 = k := ⟨n2.toNat, by have := hin.1; omega⟩
  have hnd : nodeOf N (j : Nat) = N.getD j n0 := if_pos hin
  have hjN : j < N.length := by have := hin.2; omega
  rw [hnd] at hb3
  obtain ⟨b, o, c, hv, g0, g1, g2⟩ := h3.at_ k hkE
  have hmem : E.getD k en0 ∈ E := getD_mem hkE
  have hIk := hI k hkE
  obtain ⟨en, hen⟩ : ∃ en, en = E.getD k en0 := ⟨_, rfl⟩
  rw [← hen] at g0 g1 g2 hkn hmem hIk
  have hbs := h3.blk
  rw [hv] at hbs
  refine zl_pureL rfl ?_
  refine zl_nil ?_
  refine zk_seq ?_
  iterate 2 (refine zc_seq ?_)
  refine zc_region ?_
  refine zl_pureL rfl ?_
  refine z_cmpB (r := false) want_none (by decide) rfl rfl rfl (iff_of_false Bool.false_ne_true (by omega)) ?_
  iterate 4 (refine zl_pureL rfl ?_)
  refine zl_nil ?_
  refine zk_seq ?_
  refine zc_false rfl ?_
  refine zc_skip ?_
  refine zk_seq ?_
  refine zc_seq ?_
  refine zc_region ?_
  iterate 3 (refine zl_pureL rfl ?_)
  refine z_fa want_none (by decide) rfl ?_
  refine z_loadB want_none (by decide) rfl (by assumption) (by rfl) ?_
  refine zl_pureL rfl ?_
  refine z_ia want_none (by decide) rfl rfl (by omega) (by omega) ?_
  refine z_loadA (by rfl) (by first | exact want_none | exact want_L rfl) (by decide) rfl (agg3 g0 g1 g2 (by omega)) ?_
  refine zl_call (by first | exact want_none | exact want_L rfl) rfl (by decide) rfl (sGoes_calls h3 en hIk hm) ?_
  rintro _ w4 ⟨rfl, h4, hW4⟩
  refine ⟨_, rfl, ?_⟩
  have hb4 : Blk w4 b2 74 [.int .i64 j, .int .i64 (N.getD j n0).space, .string (N.getD j n0).name] := hb3.chg hW4.chg (fun hf => by have := h.lt b2 hf; omega)
  refine zl_nil ?_
  refine zk_seq ?_
  refine zc_seq ?_
  refine zc_region ?_
  refine zl_pureL rfl ?_
  refine z_loadAB want_none (by decide) rfl (by assumption) (by rfl) ?_
  refine zl_call (by first | exact want_none | exact want_L rfl) rfl (by decide) rfl (sComes_calls h4 (entN N j) (show j ≤ 1000000 by omega) (by rw [List.length_set]; exact hI2) (hm2 en hmem)) ?_
  rintro _ w5 ⟨rfl, vi, h5, hW5⟩
  refine ⟨_, rfl, ?_⟩
  have hb5 : Blk w5 b2 74 [.int .i64 j, .int .i64 (N.getD j n0).space, .string (N.getD j n0).name] := hb4.chg hW5.chg (fun hf => by have := h.lt b2 (by simpa [footS] using hf); omega)
  have hbs5 := h5.blk
  dsimp only at hbs5
  rw [hv] at hbs5
  refine zl_nil ?_
  refine zk_seq ?_
  refine zc_seq ?_
  refine zc_draw [7] (fun w' => Blk w' s 72 [.pointer (some ⟨q.pd, 0, none⟩), .pointer (some ⟨q.pm, 0, none⟩), .slice (some ⟨b, o, none⟩) E.length c, vi, .map (some q.r), .bool f] ∧ Blk w' b2 74 [.int .i64 j, .int .i64 (N.getD j n0).space, .string (N.getD j n0).name]) (.take 0 (.take 1 (.take 2 (.take 3 (.take 4 (.take 5 (.take 6 (.last 7)))))))) (by rfl) (by kernel_rfl) (by kernel_rfl) (fun w6 hC6 _ => ⟨?_, ?_⟩)
  · exact ⟨hbs5.no hC6, hb5.no hC6⟩
  have h6 := h5.no hC6
  have hO6 := h6.own
  dsimp only at hO6
  iterate 2 (refine zs_take rfl (zt_pure rfl ?_))
  refine zs_rdL rfl want_none rfl (by decide) (fun _ hS => r_fa rfl) ?_
  refine zs_rdL rfl want_none rfl (by decide) (fun _ hS => r_loadB rfl hS.1 (by rfl)) ?_
  refine zs_take rfl (zt_pure rfl ?_)
  refine zs_rdL rfl want_none rfl (by decide) (fun _ hS => r_loadAB rfl hS.2 (by rfl)) ?_
  refine zs_rdL rfl want_none rfl (by decide) (fun _ hS => r_ia rfl rfl (by omega) (by omega)) ?_
  obtain ⟨b', c', hv', _⟩ := own_b h3.own (by omega)
  rw [hv] at hv'
  cases hv'
  rw [hv] at hO6
  obtain ⟨cells, hBo, hfit, _, hnew⟩ := hO6.lay (o := k * 3) (vs := (entN N j).cells) (by show k * 3 + 3 ≤ _; rw [encE_len]; omega) (by intro u hu; simp only [Ent.cells, List.mem_cons, List.not_mem_nil, or_false] at hu; rcases hu with rfl | rfl | rfl <;> rfl)
  refine zs_storeL (o := k * 3) rfl (by first | exact want_none | exact want_L rfl) (ev_ptr rfl (by omega)) rfl rfl hBo (show k * 3 + 3 ≤ cells.length by simpa [Ent.cells] using hfit) (by simp [Value.cells, Value.oneCell']) (fun w7 hU7 => ?_)
  have hO7 := hnew w7 hU7
  rw [← encE_set _ _ _ hkE] at hO7
  have hR7 : OneT w6 74 (fun i => i = b) := fun i hi => ⟨_, hi ▸ hBo⟩
  have h7 := h6.ownW (E' := E.set k (entN N j)) hU7.chg hR7 (by dsimp only; rw [hv, List.length_set]; exact hO7)
  refine zk_seq ?_
  refine zc_seq ?_
  refine zc_region ?_
  refine zl_pureL rfl ?_
  refine zl_nil ?_
  refine zk_seq ?_
  refine zc_ret ?_
  refine zk_ret1 (.inr rfl) rfl rfl ⟨_, q.vo, vi, rfl, ((WrS.of_no hC3 _ _).trans hW4).trans (hW5.trans ((WrS.of_no hC6 _ _).trans ⟨hU7.chg.mono (fun i _ hi => .inr (.inl (by dsimp only; rw [hv, hi]; rfl))), fun _ h => .inl h⟩)), .inl ⟨rfl, rfl, k, hk1, hkE, by rw [← hen]; exact hkn, by rw [← hen]; exact h7⟩⟩
end
end Go.Proofs.Yteeibieaapiomaa.D
/- SOpen -/
/- A Site: Open. -/
namespace Go.Proofs.Yteeibieaapiomaa.D
open Go Go.Z Go.Proofs
set_option linter.unusedVariables false
section
variable {w w' w1 w2 : World} {s : Nat} {q : SP} {E : List Ent} {I : List Bool} {m : ByteArray → Int} {N : List ND} {f : Bool}
set_option maxRecDepth 100000 in
set_option maxHeartbeats 8000000 in
theorem sOpen_calls (h : IsS w s q E I m N f) (hE : E.length ≤ 1000000) :
    Calls Try.prog 20 [.pointer (some ⟨s, 0, none⟩)].toArray w fun x w' => ∃ v, x = .returned v ∧ Ints w' w.heap.size v (E.map Ent.n) ∧ Chg w w' No := by
  have hb := h.blk
  obtain ⟨A, c, hv, hc⟩ := h.own.rd.form
  rw [hv] at hb
  refine calls_zc (n := 22) (f := 20) (fn := Try.f20) Try.func20 rfl rfl (by simp) ?_
  refine zc_seq ?_
  refine zc_region ?_
  refine zl_pureL rfl ?_
  refine zl_nil ?_
  refine zk_seq ?_
  refine zc_seq ?_
  refine zc_region ?_
  refine zl_pureL rfl ?_
  refine zl_nil ?_
  refine zk_seq ?_
  iterate 2 (refine zc_seq ?_)
  refine zc_region ?_
  iterate 2 (refine zl_pureL rfl ?_)
  refine z_fa want_none (by decide) rfl ?_
  refine z_loadB want_none (by decide) rfl (by assumption) (by rfl) ?_
  refine z_len want_none (by decide) rfl ?_
  refine zl_pureL rfl ?_
  refine zl_nil ?_
  refine zk_seq ?_
  refine zc_block ?_
  refine zc_loopW (ι := Nat × Value) (fun k u => [(3, k.2), (9, .slice A E.length c), (10, .int .i64 E.length), (11, .int .i64 (k.1 : Nat))]) (fun k u => k.1 ≤ E.length ∧ Ints u w.heap.size k.2 ((E.map Ent.n).take k.1) ∧ Chg w u No) (fun k u => E.length - k.1) (0, .slice none 0 0) ⟨Nat.zero_le _, ⟨Own.nil, fun j hj => by cases hj⟩, Chg.refl _ _⟩ ?_ ?_
  · exact ⟨rfl, rfl, rfl, rfl, trivial⟩
  rintro ⟨k, v⟩ u ⟨hk, hI, hC⟩
  dsimp only at hk hI hC ⊢
  have hlk : ((E.map Ent.n).take k).length = k := by rw [List.length_take, List.length_map]; omega
  by_cases hlt : k < E.length
  rotate_left
  · obtain rfl : k = E.length := by omega
    rw [List.take_of_length_le (by simp)] at hI
    refine zc_seq ?_
    refine zc_region ?_
    refine z_cmpB (r := false) want_none (by decide) rfl rfl rfl (iff_of_false Bool.false_ne_true (by omega)) ?_
    refine zl_nil ?_
    refine zk_seq ?_
    refine zc_seq ?_
    refine zc_false rfl ?_
    refine zc_exit ?_
    iterate 2 (refine zk_exit_then ?_)
    refine zk_exit_block ?_
    refine zk_seq ?_
    refine zc_seq ?_
    refine zc_region ?_
    iterate 2 (refine zl_pureL rfl ?_)
    refine zl_nil ?_
    refine zk_seq ?_
    refine zc_ret ?_
    exact zk_ret1 (.inr rfl) rfl rfl ⟨_, rfl, hI, hC⟩
  obtain ⟨b, o, c', hv', g0, g1, g2⟩ := (h.no hC).at_ k hlt
  rw [hv] at hv'
  cases hv'
  obtain ⟨en, hen⟩ : ∃ en, en = E.getD k en0 := ⟨_, rfl⟩
  rw [← hen] at g0 g1 g2
  refine zc_seq ?_
  refine zc_region ?_
  refine z_cmpB (r := true) want_none (by decide) rfl rfl rfl (iff_of_true rfl (by omega)) ?_
  refine zl_nil ?_
  refine zk_seq ?_
  refine zc_seq ?_
  refine zc_true rfl ?_
  refine zc_skip ?_
  refine zk_seq ?_
  refine zc_seq ?_
  refine zc_block ?_
  refine zc_seq ?_
  refine zc_region ?_
  refine z_ia want_none (by decide) rfl rfl (by omega) (by omega) ?_
  refine z_loadA (by rfl) (by first | exact want_none | exact want_L rfl) (by decide) rfl (agg3 g0 g1 g2 (by omega)) ?_
  refine z_alloc (by first | exact want_none | exact want_L rfl) (by decide) (fun u1 b1 hN1 => ?_)
  have hb1 : Blk u1 b1 74 [.int .i64 0, .int .i64 0, .string ⟨#[]⟩] := hN1.blk
  refine z_store (by first | exact want_none | exact want_L rfl) rfl rfl rfl (by assumption) (by first | exact Nat.le_refl _ | simp [Value.cells]) (by simp [Value.cells, Value.oneCell']) (fun u2 hU2 => ?_)
  have hb2 : Blk u2 b1 74 [.int .i64 en.n, .int .i64 en.sp, .string en.nm] := hU2.blk
  have hC2 : Chg u u2 No := hN1.chg.upd hU2 (hN1.ge (Chg.refl _ No))
  have hI2 := hI.no hC2
  refine zl_nil ?_
  refine zk_seq ?_
  refine zc_region ?_
  refine zl_pureL rfl ?_
  refine z_fa want_none (by decide) rfl ?_
  refine z_loadB want_none (by decide) rfl (by assumption) (by rfl) ?_
  refine z_bs1 (by first | exact want_none | exact want_L rfl) (by decide) rfl (by rfl) (by rfl) (by decide) (by decide) (fun u3 b3 hN3 => ?_)
  have hr3 : RdS u3 3 1 (.slice (some ⟨b3, 0, none⟩) 1 1) 1 (intC [en.n]) := RdS.new hN3 rfl (intC_one _)
  have hI3 := hI2.no hN3.chg
  refine z_appendO (by rfl) (by decide) (by first | exact want_none | exact want_L rfl) (by decide) rfl rfl hI3.1 hr3 (by omega) (by omega) (fun v4 u4 hO4 hX4 hr4 => ?_)
  have hC3 : Chg w u3 No := (hC.no hC2).no hN3.chg
  have hC4 : Chg w u4 No := Chg.newS hC3 hX4 hI3.2
  have et : (E.map Ent.n).take (k + 1) = (E.map Ent.n).take k ++ [en.n] := by
    rw [List.take_add_one, List.getElem?_map, List.getElem?_eq_getElem hlt, hen, List.getD_eq_getElem?_getD, List.getElem?_eq_getElem hlt]; rfl
  have hI4 : Ints u4 w.heap.size v4 ((E.map Ent.n).take (k + 1)) := by
    refine ⟨?_, hI3.2.app hC3.size hr4⟩
    rw [et, List.length_append, intC_app]; exact hO4
  refine zl_pureL rfl ?_
  refine zl_nil ?_
  refine zk_norm_block ?_
  refine zk_seq ?_
  refine zc_region ?_
  refine z_add want_none (by decide) rfl rfl (by omega) (by omega) ?_
  refine zl_pureL rfl ?_
  refine zl_nil ?_
  refine zk_loopW (k + 1, v4) ⟨by dsimp only; omega, hI4, hC4⟩ (by dsimp only; omega) ⟨rfl, rfl, rfl, rfl, trivial⟩
end
end Go.Proofs.Yteeibieaapiomaa.D
/- SRow -/
/- What stays true of a Site when elements are put, dropped, swapped. -/
namespace Go.Proofs.Yteeibieaapiomaa.D
open Go Go.Z Go.Proofs
set_option linter.unusedVariables false
section
variable {w0 w w' : World} {s : Nat} {q q' : SP} {E : List Ent} {I : List Bool} {m : ByteArray → Int} {N N' : List ND} {f : Bool} {T T' : List Ent}
theorem Inv.cons (h : Inv E I m N) : ∃ T, E = en0 :: T := by
  cases E with
  | nil => have := h.pos; simp at this
  | cons a r => have := h.root; exact ⟨r, by rw [List.getD_cons_zero] at this; rw [this]⟩
theorem Inv.perm (h : Inv (en0 :: T) I m N) (hp : T.Perm T') : Inv (en0 :: T') I m N := by
  have hp' : ((en0 :: T).map Ent.n).Perm ((en0 :: T').map Ent.n) := (hp.cons en0).map _
  refine ⟨by simp, rfl, hp'.nodup_iff.1 h.nd, fun e he => h.el e ((hp.cons en0).mem_iff.2 he), fun n => (h.io n).trans hp'.mem_iff, h.il, fun k => ?_⟩
  rw [h.cn]
  unfold cntL
  rw [List.tail_cons, List.tail_cons, hp.countP_eq]
theorem insE_cons (T : List Ent) (i : Nat) (e : Ent) : insE (en0 :: T) (i + 1) e = en0 :: insE T i e := rfl
theorem delE_cons (T : List Ent) (i : Nat) : delE (en0 :: T) (i + 1) = en0 :: delE T i := rfl
theorem insE_perm (T : List Ent) (i : Nat) (e : Ent) : (T ++ [e]).Perm (insE T i e) := by
  unfold insE
  refine List.perm_append_comm.trans ?_
  rw [List.append_assoc]
  refine List.Perm.trans ?_ (List.perm_append_comm_assoc [e] (T.take i) (T.drop i))
  rw [List.take_append_drop]
theorem delE_perm (T : List Ent) (k : Nat) (h : k < T.length) : T.Perm (delE T k ++ [T.getD k en0]) := by
  have : T = T.take k ++ (T.getD k en0 :: T.drop (k + 1)) := by
    rw [List.getD_eq_getElem?_getD, List.getElem?_eq_getElem h]
    simp
  unfold delE
  refine (List.Perm.of_eq this).trans ?_
  rw [List.append_assoc]
  exact List.Perm.append_left _ (List.perm_append_comm (l₁ := [T.getD k en0]) (l₂ := T.drop (k + 1)))
theorem Inv.put (h : Inv E I m N) {i n : Nat} (hi : 1 ≤ i) (hn : n < N.length) (hf : freshB N I n = true) : Inv (insE E i (entN N n)) (comI I n) (cntM m (entN N n) 1) N := by
  obtain ⟨T, rfl⟩ := h.cons
  obtain ⟨j, rfl⟩ : ∃ j, i = j + 1 := ⟨i - 1, by omega⟩
  have := h.push hn hf
  rw [insE_cons]
  exact Inv.perm this (insE_perm T j _)
theorem Inv.drop (h : Inv E I m N) {k : Nat} (hk : 1 ≤ k) (hkE : k < E.length) : Inv (delE E k) (I.set (E.getD k en0).n false) (cntM m (E.getD k en0) (-1)) N := by
  obtain ⟨T, rfl⟩ := h.cons
  obtain ⟨j, rfl⟩ : ∃ j, k = j + 1 := ⟨k - 1, by omega⟩
  have hj : j < T.length := by simpa using hkE
  have h1 := h.perm (delE_perm T j hj)
  have hl : lastE (en0 :: (delE T j ++ [T.getD j en0])) = T.getD j en0 := by
    unfold lastE
    rw [List.getD_eq_getElem?_getD, List.length_cons, List.length_append, List.length_singleton]
    simp
  have h2 := (h1.pop (by simp)).1
  rw [hl] at h2
  rw [delE_cons, List.getD_cons_succ]
  have hd : (en0 :: (delE T j ++ [T.getD j en0])).dropLast = en0 :: delE T j := by
    rw [← List.cons_append, List.dropLast_concat]
  rw [hd] at h2
  exact h2
theorem set_perm (T : List Ent) (k : Nat) (e : Ent) (h : k < T.length) : (delE T k ++ [e]).Perm (T.set k e) := by
  rw [List.set_eq_take_append_cons_drop, if_pos h]
  unfold delE
  rw [List.append_assoc]
  exact List.Perm.append_left _ (List.perm_append_comm (l₁ := T.drop (k + 1)) (l₂ := [e]))
theorem opn_set {I : List Bool} {j : Nat} {n : Int} (h : opn (I.set j false) n) : opn I n := by
  obtain ⟨h1, h2, h3⟩ := h
  rw [List.length_set] at h2
  refine ⟨h1, h2, ?_⟩
  rcases Nat.lt_or_ge j I.length with hj | hj
  · rw [getD_set _ _ _ _ _ hj] at h3
    split at h3
    · cases h3
    · exact h3
  · rw [List.set_eq_of_length_le hj] at h3; exact h3
theorem Inv.swap (h : Inv E I m N) {k n : Nat} (hk : 1 ≤ k) (hkE : k < E.length) (hn : n < N.length) (hf : freshB N I n = true) : Inv (E.set k (entN N n)) (comI (I.set (E.getD k en0).n false) n) (cntM (cntM m (E.getD k en0) (-1)) (entN N n) 1) N := by
  have h1 := h.drop hk hkE
  have hf1 : freshB N (I.set (E.getD k en0).n false) n = true := by
    unfold freshB at hf ⊢
    rw [decide_eq_true_eq] at hf ⊢
    exact ⟨hf.1, fun ho => hf.2 (opn_set ho)⟩
  have h2 := h1.push hn hf1
  obtain ⟨T, rfl⟩ := h.cons
  obtain ⟨j, rfl⟩ : ∃ j, k = j + 1 := ⟨k - 1, by omega⟩
  rw [delE_cons] at h2
  rw [List.set_cons_succ]
  exact Inv.perm h2 (set_perm T j _ (by simpa using hkE))
theorem Inv.small1 (h : Inv E I m N) (hN : N.length ≤ 900000) (e : Ent) : SmallM (cntM m e (-1)) := fun k => by
  have hs := h.small hN
  have h0 : ∀ k, 0 ≤ m k := fun k => by rw [h.cn]; unfold cntL; omega
  unfold cntM
  split
  · unfold updM
    split
    · have := hs e.nm; have := h0 e.nm; omega
    · have := hs k; omega
  · have := hs k; omega
theorem Inv.lens (h : Inv E I m N) (k : Nat) (hk : k < E.length) : (E.getD k en0).n < I.length := by
  have hm : (E.getD k en0).n ∈ E.map Ent.n := List.mem_map.2 ⟨_, getD_mem hk, rfl⟩
  have := (h.io _).2 hm
  rcases Nat.lt_or_ge (E.getD k en0).n I.length with h1 | h1
  · exact h1
  · rw [List.getD_eq_getElem?_getD (l := I), List.getElem?_eq_none h1] at this; cases this
theorem freshB_is {n : Int} (hf : freshB N I n = true) : ∃ k : Nat, n = k ∧ k < N.length := by
  unfold freshB at hf
  rw [decide_eq_true_eq] at hf
  have h1 := hf.1
  unfold nodeOf at h1
  split at h1
  · rename_i hin; exact ⟨n.toNat, by have := hin.1; omega, by have := hin.2; have := hin.1; omega⟩
  · simp [n0] at h1
theorem SF.putG (h : SF w0 w s q E I m N f) (hB : BigT N) (hN : N.length ≤ 900000) (i n : Int) :
    Calls Try.prog 16 [.pointer (some ⟨s, 0, none⟩), .int .i64 i, .int .i64 n].toArray w fun x w' => ∃ p q' E' I' m', x = .returned (.bool p) ∧ SP.Eq q q' ∧ WrS w w' s q q' ∧ SF w0 w' s q' E' I' m' N f := by
  have hel := h.inv.elen
  have hil := h.inv.il
  refine (sPut_calls h.is hB i n (by omega) h.inv.pos (by omega) (by omega) (h.inv.small hN)).mono ?_
  rintro x w' ⟨p, vo, vi, rfl, hW, ⟨rfl, hf, hi, hI⟩ | ⟨rfl, hI⟩⟩
  · obtain ⟨k, rfl, hk⟩ := freshB_is hf
    exact ⟨_, { q with vo := vo, vi := vi }, _, _, _, rfl, ⟨rfl, rfl, rfl⟩, hW, h.wr hI hW (h.inv.put (by omega) hk hf) h.wf⟩
  · exact ⟨_, { q with vo := vo, vi := vi }, _, _, _, rfl, ⟨rfl, rfl, rfl⟩, hW, h.wr hI hW h.inv h.wf⟩
theorem SF.dropG (h : SF w0 w s q E I m N f) (hN : N.length ≤ 900000) (n : Int) :
    Calls Try.prog 18 [.pointer (some ⟨s, 0, none⟩), .int .i64 n].toArray w fun x w' => ∃ p q' E' I' m', x = .returned (.bool p) ∧ SP.Eq q q' ∧ WrS w w' s q q' ∧ SF w0 w' s q' E' I' m' N f := by
  have hel := h.inv.elen
  refine (sDrop_calls h.is h.inv.pos (by omega) h.inv.lens (h.inv.small hN) n).mono ?_
  rintro x w' ⟨p, vo, rfl, hW, ⟨rfl, k, hk1, hkE, hkn, hI⟩ | ⟨rfl, hI⟩⟩
  · exact ⟨_, { q with vo := vo }, _, _, _, rfl, ⟨rfl, rfl, rfl⟩, hW, h.wr hI hW (h.inv.drop hk1 hkE) h.wf⟩
  · exact ⟨_, { q with vo := vo }, _, _, _, rfl, ⟨rfl, rfl, rfl⟩, hW, h.wr hI hW h.inv h.wf⟩
theorem SF.swapG (h : SF w0 w s q E I m N f) (hB : BigT N) (hN : N.length ≤ 900000) (n n2 : Int) :
    Calls Try.prog 17 [.pointer (some ⟨s, 0, none⟩), .int .i64 n, .int .i64 n2].toArray w fun x w' => ∃ p q' E' I' m', x = .returned (.bool p) ∧ SP.Eq q q' ∧ WrS w w' s q q' ∧ SF w0 w' s q' E' I' m' N f := by
  have hel := h.inv.elen
  have hil := h.inv.il
  refine (sSwap_calls h.is hB (by omega) h.inv.pos (by omega) h.inv.lens (by omega) (h.inv.small hN) (fun e _ => h.inv.small1 hN e) n n2).mono ?_
  rintro x w' ⟨p, vo, vi, rfl, hW, ⟨rfl, hf, k, hk1, hkE, hkn, hI⟩ | ⟨rfl, hI⟩⟩
  · obtain ⟨j, rfl, hj⟩ := freshB_is hf
    exact ⟨_, { q with vo := vo, vi := vi }, _, _, _, rfl, ⟨rfl, rfl, rfl⟩, hW, h.wr hI hW (h.inv.swap hk1 hkE hj hf) h.wf⟩
  · exact ⟨_, { q with vo := vo, vi := vi }, _, _, _, rfl, ⟨rfl, rfl, rfl⟩, hW, h.wr hI hW h.inv h.wf⟩
theorem SF.popG (h : SF w0 w s q E I m N f) (hN : N.length ≤ 900000) :
    Calls Try.prog 15 [.pointer (some ⟨s, 0, none⟩)].toArray w fun x w' => ∃ p q' E' I' m', x = .returned (.bool p) ∧ SP.Eq q q' ∧ WrS w w' s q q' ∧ SF w0 w' s q' E' I' m' N f := by
  refine (h.pop hN).mono ?_
  rintro x w' ⟨rfl, q', hq, hW, hI⟩
  split at hI
  · exact ⟨_, q', _, _, _, rfl, hq, hW, hI⟩
  · exact ⟨_, q', _, _, _, rfl, hq, hW, hI⟩
set_option maxHeartbeats 8000000 in
theorem SF.pushG (h : SF w0 w s q E I m N f) (hB : BigT N) (hN : N.length ≤ 900000) (n : Int) :
    Calls Try.prog 19 [.pointer (some ⟨s, 0, none⟩), .int .i64 n].toArray w fun x w' => ∃ p q' E' I' m', x = .returned (.bool p) ∧ SP.Eq q q' ∧ WrS w w' s q q' ∧ SF w0 w' s q' E' I' m' N f := by
  have hb := h.is.blk
  obtain ⟨A, c, hv, hc⟩ := h.is.own.rd.form
  rw [hv] at hb
  refine calls_zc (n := 13) (f := 19) (fn := Try.f19) Try.func19 rfl rfl (by simp) ?_
  refine zc_seq ?_
  refine zc_region ?_
  refine zl_pureL rfl ?_
  refine zl_nil ?_
  refine zk_seq ?_
  refine zc_seq ?_
  refine zc_region ?_
  iterate 3 (refine zl_pureL rfl ?_)
  refine z_fa want_none (by decide) rfl ?_
  refine z_loadB want_none (by decide) rfl (by assumption) (by rfl) ?_
  refine z_len want_none (by decide) rfl ?_
  refine zl_pureL rfl ?_
  refine zl_call (by first | exact want_none | exact want_L rfl) rfl (by decide) rfl (h.putG hB hN _ _) ?_
  rintro _ w1 ⟨p, q', E', I', m', rfl, h1⟩
  refine ⟨_, rfl, ?_⟩
  refine zl_pureL rfl ?_
  refine zl_nil ?_
  refine zk_seq ?_
  refine zc_ret ?_
  exact zk_ret1 (.inr rfl) rfl rfl ⟨p, q', E', I', m', rfl, h1⟩
theorem SF.docElem (h : SF w0 w s q E I m N f) (hN : N.length ≤ 90000) (sp : Int) (nm : ByteArray) {va : Value} {l : List At} (ha : AttrS w va l) (hal : l.length ≤ 100000) :
    Calls Try.prog 11 [.pointer (some ⟨q.pd, 0, none⟩), .int .i64 sp, .string nm, va].toArray w fun x w' => x = .returned (.int .i64 N.length) ∧ ∃ q', SP.Eq q q' ∧ WrS w w' s q q' ∧ SF w0 w' s q' E I m (N ++ [⟨1, sp, nm, l, [], -1, []⟩]) f := by
  refine (elem'_calls h.is.doc (by omega) sp nm ha hal).mono ?_
  rintro x w' ⟨rfl, vl', Q', hI, hW⟩
  exact ⟨rfl, { q with vl := vl', Q := Q' }, ⟨rfl, rfl, rfl⟩, WrS.doc hW, h.wr (h.is.docW hI hW) (WrS.doc hW) (h.inv.nodes (sameK.snoc _ _)) (h.wf.add rfl rfl)⟩
theorem SF.docNote (h : SF w0 w s q E I m N f) (hN : N.length ≤ 90000) (t : List UInt8) (ht : t.length ≤ 100000) :
    Calls Try.prog 12 [.pointer (some ⟨q.pd, 0, none⟩), .string (bs t)].toArray w fun x w' => x = .returned (.int .i64 N.length) ∧ ∃ q', SP.Eq q q' ∧ WrS w w' s q q' ∧ SF w0 w' s q' E I m (N ++ [⟨3, 0, ⟨#[]⟩, [], t, -1, []⟩]) f := by
  refine (note_calls h.is.doc (by omega) t ht).mono ?_
  rintro x w' ⟨rfl, vl', Q', hI, hW⟩
  exact ⟨rfl, { q with vl := vl', Q := Q' }, ⟨rfl, rfl, rfl⟩, WrS.doc hW, h.wr (h.is.docW hI hW) (WrS.doc hW) (h.inv.nodes (sameK.snoc _ _)) (h.wf.add rfl rfl)⟩
end
end Go.Proofs.Yteeibieaapiomaa.D
/- SRows -/
/- SiteRows: the walk. -/
namespace Go.Proofs.Yteeibieaapiomaa.D
open Go Go.Z Go.Proofs
set_option linter.unusedVariables false
section
variable {w0 w w' : World} {s : Nat} {q q' : SP} {E : List Ent} {I : List Bool} {m : ByteArray → Int} {N N' : List ND} {f : Bool} {R : Nat → Prop} {τ : Nat}
theorem IsS.oth (h : IsS w s q E I m N f) (hc : Chg w w' R) (hR : OneT w τ R) (h1 : τ ≠ 102) (h2 : τ ≠ 76) (h3 : τ ≠ 80) (h4 : τ ≠ 5) (h5 : τ ≠ 3) (h6 : τ ≠ 89) (h7 : τ ≠ 72) (h8 : τ ≠ 91) (h9 : τ ≠ 74) (h10 : τ ≠ 4) : IsS w' s q E I m N f :=
  ⟨h.blk.typ hc hR (Ne.symm h7), h.doc.typ hc hR h1 h2 h3 h4 h5 h6, h.mrk.typ hc hR (Ne.symm h8), h.own.typ hc hR (Ne.symm h9), h.iso.typ hc hR (Ne.symm h10), h.mp.typ hc hR⟩
theorem SF.tape (h : SF w0 w s q E I m N f) {bt : Nat} {cs : List Value} (hb : Blk w bt 30 cs) (hge : w0.heap.size ≤ bt) (hc : Chg w w' (· = bt)) : SF w0 w' s q E I m N f :=
  ⟨h.is.oth hc (fun k hk => ⟨_, hk ▸ hb⟩) (by decide) (by decide) (by decide) (by decide) (by decide) (by decide) (by decide) (by decide) (by decide) (by decide), h.inv, h.wf, h.ge, h.chg.trans hc (fun i hi hk => by rw [hk] at hi; omega)⟩
theorem Tp.site {bt : Nat} {a : Option Addr} {len cap : Nat} {zs : List Int} {at_ : Nat} (hT : Tp w0 w bt a len cap zs at_) (h : SF w0 w s q E I m N f) (hW : WrS w w' s q q') : Tp w0 w' bt a len cap zs at_ :=
  hT.oth hW.chg (h.is.noT hT.blk (by decide) (by decide) (by decide) (by decide) (by decide) (by decide) (by decide) (by decide)) h.ge
theorem Inv.rows (h : Inv E I m N) : (E.map Ent.n).getD 0 0 = 0 ∧ (∀ k, k < E.length → (E.map Ent.n).getD k 0 < N.length ∧ (N.getD ((E.map Ent.n).getD k 0) n0).kind = 1) ∧ (∀ j k, j < k → k < E.length → (E.map Ent.n).getD j 0 ≠ (E.map Ent.n).getD k 0) ∧ (E.map Ent.n).getD (E.length - 1) 0 = (lastE E).n := by
  have key : ∀ k, (E.map Ent.n).getD k 0 = (E.getD k en0).n := fun k => by
    rw [List.getD_eq_getElem?_getD, List.getD_eq_getElem?_getD, List.getElem?_map]
    cases E[k]? <;> rfl
  refine ⟨by rw [key, h.root]; rfl, fun k hk => ?_, fun j k hjk hk he => ?_, key _⟩
  · rw [key]
    have := h.el _ (getD_mem (d := en0) hk)
    exact ⟨this.1, this.2.2⟩
  · have hl : (E.map Ent.n).length = E.length := List.length_map ..
    rw [List.getD_eq_getElem?_getD, List.getD_eq_getElem?_getD, List.getElem?_eq_getElem (by omega), List.getElem?_eq_getElem (by omega)] at he
    exact List.pairwise_iff_getElem.1 h.nd j k _ _ hjk he
end
def rX : ND := ⟨1, 1, ⟨#[120]⟩, [], [], -1, []⟩
def rN (i : Nat) : List ND := rootN ++ List.replicate i rX
theorem rN_len (i : Nat) : (rN i).length = i + 1 := by simp [rN, rootN]
theorem rN_succ (i : Nat) : rN i ++ [rX] = rN (i + 1) := by unfold rN; rw [List.append_assoc, List.replicate_succ']
def nN : List ND := rN 6 ++ [⟨3, 0, ⟨#[]⟩, [], [110], -1, []⟩]
theorem nN_big : BigT nN := BigT.of (fun x hx => by
  have : nN = [⟨1, 1, ⟨#[]⟩, [], [], -1, []⟩, rX, rX, rX, rX, rX, rX, ⟨3, 0, ⟨#[]⟩, [], [110], -1, []⟩] := by rfl
  rw [this] at hx
  simp only [List.mem_cons, List.not_mem_nil, or_false] at hx
  rcases hx with rfl | rfl | rfl | rfl | rfl | rfl | rfl | rfl <;> exact ⟨by decide, by decide⟩)
theorem nN_el {n : Nat} (h : n < nN.length) (hk : (nN.getD n n0).kind = 1) : n < 7 := by
  have h8 : nN.length = 8 := by rfl
  have : n ≠ 7 := by rintro rfl; exact absurd hk (by decide)
  omega
set_option maxRecDepth 100000 in
set_option maxHeartbeats 16000000 in
theorem SiteRows_walk (a : Option Addr) (len cap : Nat) (zs : List Int) (w : World) (hrow : IsRow .i64 w a len cap zs) : Calls Try.prog 3 #[.slice a len cap] w fun e w' => e = .returned (.bool true) ∧ RowKit.Below w.heap.size w w' := by
  show Calls Try.prog 3 [Value.slice a len cap].toArray w _
  obtain ⟨hlc, hcm, _⟩ := hrow.le
  refine calls_zc (n := 129) (f := 3) (fn := Try.f3) Try.func3 rfl rfl (by simp) ?_
  refine zc_seq ?_
  refine zc_region ?_
  refine zl_pureL rfl ?_
  refine zl_nil ?_
  refine zk_seq ?_
  iterate 2 (refine zc_seq ?_)
  refine zc_region ?_
  refine zl_call (by first | exact want_none | exact want_L rfl) rfl (by decide) rfl known8_calls ?_
  rintro _ w1 ⟨rfl, hC1⟩
  refine ⟨_, rfl, ?_⟩
  refine zl_pureL rfl ?_
  refine zl_nil ?_
  refine zk_seq ?_
  refine zc_false rfl ?_
  refine zc_skip ?_
  refine zk_seq ?_
  refine zc_seq ?_
  refine zc_region ?_
  refine zl_call (by first | exact want_none | exact want_L rfl) rfl (by decide) rfl (sNew_calls hC1) ?_
  rintro _ w2 ⟨s, q, rfl, h2, _, _⟩
  refine ⟨_, rfl, ?_⟩
  refine zl_pureL rfl ?_
  refine zl_nil ?_
  refine zk_seq ?_
  iterate 2 (refine zc_seq ?_)
  refine zc_region ?_
  refine zl_pureL rfl ?_
  refine z_eqPN (by first | exact want_none | exact want_L rfl) (by decide) rfl rfl ?_
  iterate 2 (refine zl_pureL rfl ?_)
  refine zl_call (by first | exact want_none | exact want_L rfl) rfl (by decide) rfl (sDoc_calls h2.is) ?_
  rintro _ u ⟨rfl, hu⟩
  obtain rfl := hu.symm
  refine ⟨_, rfl, ?_⟩
  refine z_eqPN (by first | exact want_none | exact want_L rfl) (by decide) rfl rfl ?_
  refine zl_pureL rfl ?_
  refine zl_nil ?_
  refine zk_seq ?_
  refine zc_false rfl ?_
  refine zc_skip ?_
  refine zk_seq ?_
  refine zc_seq ?_
  refine zc_region ?_
  refine zl_pureL rfl ?_
  refine z_buildE #[.slice a len cap, .int .i64 0] (by first | exact want_none | exact want_L rfl) (by decide) rfl (by kernel_rfl) ?_
  refine z_box (by first | exact want_none | exact want_L rfl) (by decide) rfl (fun w3 bt hN3 => ?_)
  have hT3 : Tp w w3 bt a len cap zs 0 := ⟨hN3.blk, hrow, h2.chg.no hN3.chg, hN3.ge h2.chg, Nat.zero_le _⟩
  have h3 := h2.no hN3.chg
  refine zl_pureL rfl ?_
  refine zl_nil ?_
  refine zk_seq ?_
  iterate 2 (refine zc_seq ?_)
  refine zc_region ?_
  refine zl_pureL rfl ?_
  refine zl_nil ?_
  refine zk_seq ?_
  refine zc_block ?_
  refine zc_loopW (ι := Nat × SP) (fun k u => [(3, .pointer (some ⟨s, 0, none⟩)), (4, .pointer (some ⟨bt, 0, none⟩)), (5, .int .i64 (k.1 : Nat))])
    (fun k u => k.1 ≤ 6 ∧ SF w u s k.2 [en0] [true] (fun _ => 0) (rN k.1) false ∧ Tp w u bt a len cap zs 0) (fun k u => 6 - k.1) (0, q)
    ⟨Nat.zero_le _, h3, hT3⟩ ?_ ?_
  · exact ⟨rfl, rfl, rfl, trivial⟩
  rintro ⟨i, qi⟩ u ⟨hi, hS, hT⟩
  dsimp only at hi hS hT ⊢
  by_cases hlt : i < 6
  · iterate 2 (refine zc_seq ?_)
    refine zc_region ?_
    refine zl_pureL rfl ?_
    refine z_cmpB (r := true) want_none (by decide) rfl rfl rfl (iff_of_true rfl (by omega)) ?_
    refine zl_nil ?_
    refine zk_seq ?_
    refine zc_true rfl ?_
    refine zc_skip ?_
    refine zk_seq ?_
    refine zc_seq ?_
    refine zc_block ?_
    refine zc_region ?_
    refine zl_pureL rfl ?_
    refine zl_call (by first | exact want_none | exact want_L rfl) rfl (by decide) rfl (sDoc_calls hS.is) ?_
    rintro _ v ⟨rfl, hv⟩
    obtain rfl := hv.symm
    refine ⟨_, rfl, ?_⟩
    skip
    refine zl_call (by first | exact want_none | exact want_L rfl) rfl (by decide) rfl (hS.docElem (by rw [rN_len]; omega) 1 ⟨#[120]⟩ (AttrS.nil _) (Nat.zero_le _)) ?_
    rintro _ u2 ⟨rfl, q2, hq2, hW2, hS2⟩
    refine ⟨_, rfl, ?_⟩
    have e2 : rN i ++ [⟨1, 1, ⟨#[120]⟩, [], [], -1, []⟩] = rN (i + 1) := rN_succ i
    rw [e2] at hS2
    refine zl_nil ?_
    refine zk_norm_block ?_
    refine zk_seq ?_
    refine zc_region ?_
    refine zl_pureL rfl ?_
    refine z_add want_none (by decide) rfl rfl (by omega) (by omega) ?_
    refine zl_pureL rfl ?_
    refine zl_nil ?_
    exact zk_loopW (i + 1, q2) ⟨by dsimp only; omega, hS2, hT.site hS hW2⟩ (by dsimp only; omega) ⟨rfl, rfl, rfl, trivial⟩
  obtain rfl : i = 6 := by omega
  iterate 2 (refine zc_seq ?_)
  refine zc_region ?_
  refine zl_pureL rfl ?_
  refine z_cmpB (r := false) want_none (by decide) rfl rfl rfl (iff_of_false Bool.false_ne_true (by omega)) ?_
  refine zl_nil ?_
  refine zk_seq ?_
  refine zc_false rfl ?_
  refine zc_exit ?_
  iterate 2 (refine zk_exit_then ?_)
  refine zk_exit_block ?_
  refine zk_seq ?_
  refine zc_seq ?_
  refine zc_region ?_
  refine zl_pureL rfl ?_
  refine zl_call (by first | exact want_none | exact want_L rfl) rfl (by decide) rfl (sDoc_calls hS.is) ?_
  rintro _ v ⟨rfl, hv⟩
  obtain rfl := hv.symm
  refine ⟨_, rfl, ?_⟩
  skip
  refine zl_call (by first | exact want_none | exact want_L rfl) rfl (by decide) rfl (hS.docNote (by rw [rN_len]; omega) [110] (by decide)) ?_
  rintro _ u2 ⟨rfl, q2, hq2, hW2, hS2⟩
  refine ⟨_, rfl, ?_⟩
  rw [rN_len]
  have hT2 := hT.site hS hW2
  have hS2 : SF w u2 s q2 [en0] [true] (fun _ => 0) nN false := hS2
  refine zl_pureL rfl ?_
  refine zl_nil ?_
  refine zk_seq ?_
  iterate 2 (refine zc_seq ?_)
  refine zc_region ?_
  refine zl_pureL rfl ?_
  refine zl_nil ?_
  refine zk_seq ?_
  refine zc_block ?_
  refine zc_loopW (ι := Nat × SP × List Ent × List Bool × (ByteArray → Int) × Nat) (fun k u => [(3, .pointer (some ⟨s, 0, none⟩)), (4, .pointer (some ⟨bt, 0, none⟩)), (6, .int .i64 7), (7, .int .i64 (k.1 : Nat))])
    (fun k u => k.1 ≤ 40 ∧ SF w u s k.2.1 k.2.2.1 k.2.2.2.1 k.2.2.2.2.1 nN false ∧ Tp w u bt a len cap zs k.2.2.2.2.2) (fun k u => 40 - k.1) (0, q2, [en0], [true], (fun _ => 0), 0)
    ⟨Nat.zero_le _, hS2, hT2⟩ ?_ ?_
  · exact ⟨rfl, rfl, rfl, rfl, trivial⟩
  rintro ⟨i, qi, E, I, m, at_⟩ u3 ⟨hi, hS3, hT3⟩
  dsimp only at hi hS3 hT3 ⊢
  by_cases hlt : i < 40
  rotate_left
  · iterate 2 (refine zc_seq ?_)
    refine zc_region ?_
    refine zl_pureL rfl ?_
    refine z_cmpB (r := false) want_none (by decide) rfl rfl rfl (iff_of_false Bool.false_ne_true (by omega)) ?_
    iterate 2 (refine zl_pureL rfl ?_)
    refine zl_skip rfl ?_
    refine zl_pureL rfl ?_
    refine zl_nil ?_
    refine zk_seq ?_
    refine zc_false rfl ?_
    refine zc_exit ?_
    iterate 2 (refine zk_exit_then ?_)
    refine zk_exit_block ?_
    refine zk_seq ?_
    refine zc_seq ?_
    refine zc_region ?_
    refine zl_pureL rfl ?_
    refine zl_nil ?_
    refine zk_seq ?_
    refine zc_ret ?_
    exact zk_ret1 (.inr rfl) rfl rfl ⟨rfl, hS3.chg.below⟩
  iterate 2 (refine zc_seq ?_)
  refine zc_region ?_
  refine zl_pureL rfl ?_
  refine z_cmpB (r := true) want_none (by decide) rfl rfl rfl (iff_of_true rfl (by omega)) ?_
  iterate 2 (refine zl_pureL rfl ?_)
  refine zl_call (by first | exact want_none | exact want_L rfl) rfl (by decide) rfl (more_calls hT3) ?_
  rintro _ u4 ⟨rfl, hC4⟩
  refine ⟨_, rfl, ?_⟩
  have hS4 := hS3.no hC4
  have hT4 := hT3.no hC4
  by_cases hmore : at_ < len
  rotate_left
  · rw [decide_eq_false hmore]
    refine zl_pureL rfl ?_
    refine zl_nil ?_
    refine zk_seq ?_
    refine zc_false rfl ?_
    refine zc_exit ?_
    iterate 2 (refine zk_exit_then ?_)
    refine zk_exit_block ?_
    refine zk_seq ?_
    refine zc_seq ?_
    refine zc_region ?_
    refine zl_pureL rfl ?_
    refine zl_nil ?_
    refine zk_seq ?_
    refine zc_ret ?_
    exact zk_ret1 (.inr rfl) rfl rfl ⟨rfl, hS4.chg.below⟩
  rw [decide_eq_true hmore]
  refine zl_pureL rfl ?_
  refine zl_nil ?_
  refine zk_seq ?_
  refine zc_true rfl ?_
  refine zc_skip ?_
  refine zk_seq ?_
  refine zc_seq ?_
  refine zc_block ?_
  refine zc_seq ?_
  refine zc_region ?_
  refine zl_pureL rfl ?_
  refine zl_call (by first | exact want_none | exact want_L rfl) rfl (by decide) rfl (next'_calls hT4 9 (by decide) (by decide) rfl) ?_
  rintro _ u5 ⟨rfl, hT5, hC5⟩
  refine ⟨_, rfl, ?_⟩
  have hS5 := hS4.tape hT4.blk hT4.ge hC5
  refine zl_pureL rfl ?_
  refine zl_call (by first | exact want_none | exact want_L rfl) rfl (by decide) rfl (next'_calls hT5 9 (by decide) (by decide) rfl) ?_
  rintro _ u6 ⟨rfl, hT6, hC6⟩
  refine ⟨_, rfl, ?_⟩
  have hS6 := hS5.tape hT5.blk hT5.ge hC6
  iterate 2 (refine zl_pureL rfl ?_)
  refine zl_nil ?_
  refine zk_seq ?_
  iterate 2 (refine zc_seq ?_)
  refine zc_region ?_
  refine zl_pureL rfl ?_
  refine zl_call (by first | exact want_none | exact want_L rfl) rfl (by decide) rfl (next'_calls hT6 6 (by decide) (by decide) rfl) ?_
  rintro _ u7 ⟨rfl, hT7, hC7⟩
  refine ⟨_, rfl, ?_⟩
  have hS7 := hS6.tape hT6.blk hT6.ge hC7
  obtain ⟨at3, hat3⟩ : ∃ x, x = (nx zs len (nx zs len (nx zs len at_ 9).2 9).2 6).2 := ⟨_, rfl⟩
  obtain ⟨c, hc⟩ : ∃ x, x = (nx zs len (nx zs len (nx zs len at_ 9).2 9).2 6).1 := ⟨_, rfl⟩
  obtain ⟨x, hx⟩ : ∃ x, x = (nx zs len at_ 9).1 := ⟨_, rfl⟩
  obtain ⟨y, hy⟩ : ∃ x, x = (nx zs len (nx zs len at_ 9).2 9).1 := ⟨_, rfl⟩
  have hc6 : c < 6 := by rw [hc]; exact nx_lt _ _ _ 6 (by decide)
  rw [← hat3] at hT7
  rw [← hc, ← hx, ← hy]
  have hnl : nN.length ≤ 900000 := by decide
  refine zl_nil ?_
  refine zk_seq ?_
  refine zc_midTX (ι := SP × List Ent × List Bool × (ByteArray → Int)) (fun k u => SF w u s k.1 k.2.1 k.2.2.1 k.2.2.2 nN false ∧ Tp w u bt a len cap zs at3) (fun k => [(3, .pointer (some ⟨s, 0, none⟩)), (4, .pointer (some ⟨bt, 0, none⟩)), (6, .int .i64 7), (7, .int .i64 (i : Nat))]) ?_ ?_
  · have hcc : c = 0 ∨ c = 1 ∨ c = 2 ∨ c = 3 ∨ 4 ≤ c := by omega
    rcases hcc with rfl | rfl | rfl | rfl | h4
    · refine zc_block ?_
      refine zc_seq ?_
      refine zc_region ?_
      refine z_cmpB (r := true) want_none (by decide) rfl rfl rfl (iff_of_true rfl (by omega)) ?_
      refine zl_pureL rfl ?_
      refine zl_nil ?_
      refine zk_seq ?_
      refine zc_true rfl ?_
      refine zc_region ?_
      refine zl_pureL rfl ?_
      refine zl_call (by first | exact want_none | exact want_L rfl) rfl (by decide) rfl (hS7.popG hnl) ?_
      rintro _ u8 ⟨p, q', E', I', m', rfl, _, hW, hS8⟩
      refine ⟨_, rfl, ?_⟩
      have hT8 := hT7.site hS7 hW
      refine zl_nil ?_
      refine zk_norm_block ?_
      exact zk_midX (q', E', I', m') ⟨hS8, hT8⟩ ⟨rfl, rfl, rfl, rfl, trivial⟩
    · refine zc_block ?_
      refine zc_seq ?_
      refine zc_region ?_
      refine z_cmpB (r := false) want_none (by decide) rfl rfl rfl (iff_of_false Bool.false_ne_true (by omega)) ?_
      refine zl_pureL rfl ?_
      refine zl_nil ?_
      refine zk_seq ?_
      refine zc_false rfl ?_
      refine zc_seq ?_
      refine zc_region ?_
      refine z_cmpB (r := true) want_none (by decide) rfl rfl rfl (iff_of_true rfl (by omega)) ?_
      refine zl_pureL rfl ?_
      refine zl_nil ?_
      refine zk_seq ?_
      refine zc_true rfl ?_
      refine zc_region ?_
      iterate 3 (refine zl_pureL rfl ?_)
      refine zl_call (by first | exact want_none | exact want_L rfl) rfl (by decide) rfl (hS7.putG nN_big hnl _ _) ?_
      rintro _ u8 ⟨p, q', E', I', m', rfl, _, hW, hS8⟩
      refine ⟨_, rfl, ?_⟩
      have hT8 := hT7.site hS7 hW
      refine zl_nil ?_
      refine zk_norm_block ?_
      exact zk_midX (q', E', I', m') ⟨hS8, hT8⟩ ⟨rfl, rfl, rfl, rfl, trivial⟩
    · refine zc_block ?_
      refine zc_seq ?_
      refine zc_region ?_
      refine z_cmpB (r := false) want_none (by decide) rfl rfl rfl (iff_of_false Bool.false_ne_true (by omega)) ?_
      refine zl_pureL rfl ?_
      refine zl_nil ?_
      refine zk_seq ?_
      refine zc_false rfl ?_
      refine zc_seq ?_
      refine zc_region ?_
      refine z_cmpB (r := false) want_none (by decide) rfl rfl rfl (iff_of_false Bool.false_ne_true (by omega)) ?_
      refine zl_pureL rfl ?_
      refine zl_nil ?_
      refine zk_seq ?_
      refine zc_false rfl ?_
      refine zc_seq ?_
      refine zc_region ?_
      refine z_cmpB (r := true) want_none (by decide) rfl rfl rfl (iff_of_true rfl (by omega)) ?_
      refine zl_pureL rfl ?_
      refine zl_nil ?_
      refine zk_seq ?_
      refine zc_true rfl ?_
      refine zc_region ?_
      iterate 3 (refine zl_pureL rfl ?_)
      refine zl_call (by first | exact want_none | exact want_L rfl) rfl (by decide) rfl (hS7.swapG nN_big hnl _ _) ?_
      rintro _ u8 ⟨p, q', E', I', m', rfl, _, hW, hS8⟩
      refine ⟨_, rfl, ?_⟩
      have hT8 := hT7.site hS7 hW
      refine zl_nil ?_
      refine zk_norm_block ?_
      exact zk_midX (q', E', I', m') ⟨hS8, hT8⟩ ⟨rfl, rfl, rfl, rfl, trivial⟩
    · refine zc_block ?_
      refine zc_seq ?_
      refine zc_region ?_
      refine z_cmpB (r := false) want_none (by decide) rfl rfl rfl (iff_of_false Bool.false_ne_true (by omega)) ?_
      refine zl_pureL rfl ?_
      refine zl_nil ?_
      refine zk_seq ?_
      refine zc_false rfl ?_
      refine zc_seq ?_
      refine zc_region ?_
      refine z_cmpB (r := false) want_none (by decide) rfl rfl rfl (iff_of_false Bool.false_ne_true (by omega)) ?_
      refine zl_pureL rfl ?_
      refine zl_nil ?_
      refine zk_seq ?_
      refine zc_false rfl ?_
      refine zc_seq ?_
      refine zc_region ?_
      refine z_cmpB (r := false) want_none (by decide) rfl rfl rfl (iff_of_false Bool.false_ne_true (by omega)) ?_
      refine zl_pureL rfl ?_
      refine zl_nil ?_
      refine zk_seq ?_
      refine zc_false rfl ?_
      refine zc_seq ?_
      refine zc_region ?_
      refine z_cmpB (r := true) want_none (by decide) rfl rfl rfl (iff_of_true rfl (by omega)) ?_
      refine zl_pureL rfl ?_
      refine zl_nil ?_
      refine zk_seq ?_
      refine zc_true rfl ?_
      refine zc_region ?_
      iterate 2 (refine zl_pureL rfl ?_)
      refine zl_call (by first | exact want_none | exact want_L rfl) rfl (by decide) rfl (hS7.dropG hnl _) ?_
      rintro _ u8 ⟨p, q', E', I', m', rfl, _, hW, hS8⟩
      refine ⟨_, rfl, ?_⟩
      have hT8 := hT7.site hS7 hW
      refine zl_nil ?_
      refine zk_norm_block ?_
      exact zk_midX (q', E', I', m') ⟨hS8, hT8⟩ ⟨rfl, rfl, rfl, rfl, trivial⟩
    · refine zc_block ?_
      refine zc_seq ?_
      refine zc_region ?_
      refine z_cmpB (r := false) want_none (by decide) rfl rfl rfl (iff_of_false Bool.false_ne_true (by omega)) ?_
      refine zl_pureL rfl ?_
      refine zl_nil ?_
      refine zk_seq ?_
      refine zc_false rfl ?_
      refine zc_seq ?_
      refine zc_region ?_
      refine z_cmpB (r := false) want_none (by decide) rfl rfl rfl (iff_of_false Bool.false_ne_true (by omega)) ?_
      refine zl_pureL rfl ?_
      refine zl_nil ?_
      refine zk_seq ?_
      refine zc_false rfl ?_
      refine zc_seq ?_
      refine zc_region ?_
      refine z_cmpB (r := false) want_none (by decide) rfl rfl rfl (iff_of_false Bool.false_ne_true (by omega)) ?_
      refine zl_pureL rfl ?_
      refine zl_nil ?_
      refine zk_seq ?_
      refine zc_false rfl ?_
      refine zc_seq ?_
      refine zc_region ?_
      refine z_cmpB (r := false) want_none (by decide) rfl rfl rfl (iff_of_false Bool.false_ne_true (by omega)) ?_
      refine zl_pureL rfl ?_
      refine zl_nil ?_
      refine zk_seq ?_
      refine zc_false rfl ?_
      refine zc_region ?_
      iterate 2 (refine zl_pureL rfl ?_)
      refine zl_call (by first | exact want_none | exact want_L rfl) rfl (by decide) rfl (hS7.pushG nN_big hnl _) ?_
      rintro _ u8 ⟨p, q', E', I', m', rfl, _, hW, hS8⟩
      refine ⟨_, rfl, ?_⟩
      have hT8 := hT7.site hS7 hW
      refine zl_nil ?_
      refine zk_norm_block ?_
      exact zk_midX (q', E', I', m') ⟨hS8, hT8⟩ ⟨rfl, rfl, rfl, rfl, trivial⟩
  rintro ⟨q8, E8, I8, m8⟩ u8 ⟨hS8, hT8⟩
  dsimp only at hS8 hT8 ⊢
  have hel := hS8.inv.elen
  refine zc_seq ?_
  refine zc_region ?_
  refine zl_pureL rfl ?_
  refine zl_call (by first | exact want_none | exact want_L rfl) rfl (by decide) rfl (sOpen_calls hS8.is (by omega)) ?_
  rintro _ u9 ⟨vl, rfl, hI9, hC9⟩
  refine ⟨_, rfl, ?_⟩
  have hS9 := hS8.no hC9
  have hT9 := hT8.no hC9
  obtain ⟨r0, r1, r2, r3⟩ := hS8.inv.rows
  have hEp := hS8.inv.pos
  obtain ⟨n, hn⟩ : ∃ n, n = E8.length := ⟨_, rfl⟩
  obtain ⟨L, hL⟩ : ∃ L, L = E8.map Ent.n := ⟨_, rfl⟩
  have hLn : L.length = n := by rw [hL, hn, List.length_map]
  rw [← hL] at hI9 r0 r1 r2 r3
  rw [← hn] at r1 r2 r3 hEp hel
  obtain ⟨b, o, cL, hvl, hcL, hcc⟩ := RdS.some hI9.1.rd (by omega)
  rw [hLn] at hvl hcL
  subst hvl
  have hcell : ∀ k, k < n → u9.cell? ⟨b, o + k, none⟩ = some (.int .i64 ((L.getD k 0 : Nat) : Int)) := fun k hk => hcc k _ (intC_get L k (by omega))
  have g0 := hcell 0 (by omega)
  have gl := hcell (n - 1) (by omega)
  rw [r0] at g0
  rw [r3] at gl
  refine zl_pureL rfl ?_
  refine zl_nil ?_
  refine zk_seq ?_
  iterate 2 (refine zc_seq ?_)
  refine zc_draw [] (fun w' => Chg u9 w' No) (.take 0 (.take 1 (.take 2 (.take 3 (.take 4 (.take 5 (.take 6 (.take 7 (.take 8 (.take 9 (.take 10 (.take 12 (.take 13 (.take 14 (.take 15 (.take 16 (.take 17 (.all1 11 (.take 18 (.take 19 (.fin))))))))))))))))))))) (by rfl) (by kernel_rfl) (by kernel_rfl) (fun v1 hD1 _ => ⟨?_, ?_⟩)
  · exact hD1
  refine zs_take rfl (zt_pure rfl ?_)
  refine zs_rdL rfl want_none rfl (by decide) (fun _ hS => r_len rfl) ?_
  refine zs_rdL rfl want_none rfl (by decide) (fun _ hS => r_cmpB (r := false) rfl rfl rfl (iff_of_false Bool.false_ne_true (by omega))) ?_
  iterate 2 (refine zs_take rfl (zt_pure rfl ?_))
  refine zs_rdL rfl (want_L rfl) rfl (by decide) (fun _ hS => r_ia rfl rfl (by omega) (by omega)) ?_
  refine zs_rdL rfl (by first | exact want_none | exact want_L rfl) rfl (by decide) (fun _ hS => r_load1 rfl (cell_at (cell_no hS g0) (by omega))) ?_
  refine zs_rdL rfl (want_L rfl) rfl (by decide) (fun _ hS => r_cmpB (r := false) rfl rfl rfl (iff_of_false Bool.false_ne_true (by omega))) ?_
  iterate 5 (refine zs_take rfl (zt_pure rfl ?_))
  refine zs_rdL rfl (want_L rfl) rfl (by decide) (fun _ hS => r_len rfl) ?_
  refine zs_rdL rfl (want_L rfl) rfl (by decide) (fun _ hS => r_sub rfl rfl (by omega) (by omega)) ?_
  refine zs_rdL rfl (want_L rfl) rfl (by decide) (fun _ hS => r_ia rfl rfl (by omega) (by omega)) ?_
  refine zs_rdL rfl (by first | exact want_none | exact want_L rfl) rfl (by decide) (fun _ hS => r_load1 rfl (cell_at (cell_no hS gl) (by omega))) ?_
  skip
  refine zs_call rfl (by first | exact want_none | exact want_L rfl) rfl (by decide) rfl ((hS9.no hD1).top hnl) ?_
  rintro _ v2 ⟨rfl, hC2⟩
  have hD2 := hD1.no hC2
  refine ⟨_, rfl, hD2, ?_⟩
  refine zs_rdL rfl (want_L rfl) rfl (by decide) (fun _ hS => r_cmpB (r := false) rfl rfl rfl (iff_of_false Bool.false_ne_true (by omega))) ?_
  refine zs_take rfl (zt_pure rfl ?_)
  refine zs_fin ?_
  refine zk_seq ?_
  refine zc_false rfl ?_
  refine zc_skip ?_
  refine zk_seq ?_
  refine zc_seq ?_
  refine zc_region ?_
  refine zl_pureL rfl ?_
  refine zl_nil ?_
  refine zk_seq ?_
  refine zc_block ?_
  have hS10 := hS9.no hD2
  have hT10 := hT9.no hD2
  have hcell2 : ∀ k, k < n → v2.cell? ⟨b, o + k, none⟩ = some (.int .i64 ((L.getD k 0 : Nat) : Int)) := fun k hk => cell_no hD2 (hcell k hk)
  refine zc_loopW (ι := Nat) (fun k u => [(3, .pointer (some ⟨s, 0, none⟩)), (4, .pointer (some ⟨bt, 0, none⟩)), (6, .int .i64 7), (7, .int .i64 (i : Nat)), (10, .slice (some ⟨b, o, none⟩) n cL), (11, .int .i64 (k : Nat))]) (fun k u => 1 ≤ k ∧ k ≤ n ∧ Chg v2 u No) (fun k u => n - k) 1 ⟨Nat.le_refl _, by omega, Chg.refl _ _⟩ ?_ ?_
  · exact ⟨rfl, rfl, rfl, rfl, rfl, rfl, trivial⟩
  rintro k u ⟨hk1, hkn, hCk⟩
  by_cases hkl : k < n
  rotate_left
  · iterate 2 (refine zc_seq ?_)
    refine zc_region ?_
    iterate 2 (refine zl_pureL rfl ?_)
    refine z_len want_none (by decide) rfl ?_
    refine z_cmpB (r := false) want_none (by decide) rfl rfl rfl (iff_of_false Bool.false_ne_true (by omega)) ?_
    refine zl_nil ?_
    refine zk_seq ?_
    refine zc_false rfl ?_
    refine zc_exit ?_
    iterate 2 (refine zk_exit_then ?_)
    refine zk_exit_block ?_
    refine zk_norm_block ?_
    refine zk_seq ?_
    refine zc_region ?_
    refine zl_pureL rfl ?_
    refine z_add want_none (by decide) rfl rfl (by omega) (by omega) ?_
    refine zl_pureL rfl ?_
    refine zl_nil ?_
    exact zk_loopW (i + 1, q8, E8, I8, m8, at3) ⟨by dsimp only; omega, hS10.no hCk, hT10.no hCk⟩ (by dsimp only; omega) ⟨rfl, rfl, rfl, rfl, trivial⟩
  have gk := cell_no hCk (hcell2 k hkl)
  obtain ⟨lk, hlk⟩ : ∃ x, x = L.getD k 0 := ⟨_, rfl⟩
  rw [← hlk] at gk
  have hk0 : lk ≠ 0 := by have h0k := r2 0 k (by omega) hkl; rw [r0, ← hlk] at h0k; exact fun he => h0k he.symm
  have hk7 : lk < 7 := by have := r1 k hkl; rw [← hlk] at this; exact nN_el this.1 this.2
  iterate 2 (refine zc_seq ?_)
  refine zc_region ?_
  iterate 2 (refine zl_pureL rfl ?_)
  refine z_len want_none (by decide) rfl ?_
  refine z_cmpB (r := true) want_none (by decide) rfl rfl rfl (iff_of_true rfl (by omega)) ?_
  refine zl_nil ?_
  refine zk_seq ?_
  refine zc_true rfl ?_
  refine zc_skip ?_
  refine zk_seq ?_
  refine zc_seq ?_
  refine zc_block ?_
  iterate 2 (refine zc_seq ?_)
  refine zc_region ?_
  iterate 2 (refine zl_pureL rfl ?_)
  refine z_ia want_none (by decide) rfl rfl (by omega) (by omega) ?_
  refine z_load1 (by first | exact want_none | exact want_L rfl) (by decide) rfl (cell_at gk (by omega)) ?_
  refine z_cmpB (r := false) want_none (by decide) rfl rfl rfl (iff_of_false Bool.false_ne_true (by omega)) ?_
  iterate 3 (refine zl_pureL rfl ?_)
  refine z_ia (want_L rfl) (by decide) rfl rfl (by omega) (by omega) ?_
  refine z_load1 (by first | exact want_none | exact want_L rfl) (by decide) rfl (cell_at gk (by omega)) ?_
  refine zl_pureL rfl ?_
  refine z_cmpB (r := false) (want_L rfl) (by decide) rfl rfl rfl (iff_of_false Bool.false_ne_true (by omega)) ?_
  refine zl_pureL rfl ?_
  refine zl_nil ?_
  refine zk_seq ?_
  refine zc_false rfl ?_
  refine zc_skip ?_
  refine zk_seq ?_
  refine zc_seq ?_
  refine zc_region ?_
  refine zl_pureL rfl ?_
  refine zl_nil ?_
  refine zk_seq ?_
  refine zc_block ?_
  refine zc_loopW (ι := Nat) (fun j u => [(3, .pointer (some ⟨s, 0, none⟩)), (4, .pointer (some ⟨bt, 0, none⟩)), (6, .int .i64 7), (7, .int .i64 (i : Nat)), (10, .slice (some ⟨b, o, none⟩) n cL), (11, .int .i64 (k : Nat)), (12, .int .i64 (j : Nat))]) (fun j u' => j ≤ k ∧ Chg u u' No) (fun j u => k - j) 0 ⟨Nat.zero_le _, Chg.refl _ _⟩ ?_ ?_
  · exact ⟨rfl, rfl, rfl, rfl, rfl, rfl, rfl, trivial⟩
  rintro j u' ⟨hjk, hCj⟩
  by_cases hjl : j < k
  rotate_left
  · iterate 2 (refine zc_seq ?_)
    refine zc_region ?_
    iterate 2 (refine zl_pureL rfl ?_)
    refine z_cmpB (r := false) want_none (by decide) rfl rfl rfl (iff_of_false Bool.false_ne_true (by omega)) ?_
    refine zl_nil ?_
    refine zk_seq ?_
    refine zc_false rfl ?_
    refine zc_exit ?_
    iterate 2 (refine zk_exit_then ?_)
    refine zk_exit_block ?_
    refine zk_norm_block ?_
    refine zk_seq ?_
    refine zc_region ?_
    refine zl_pureL rfl ?_
    refine z_add want_none (by decide) rfl rfl (by omega) (by omega) ?_
    refine zl_pureL rfl ?_
    refine zl_nil ?_
    exact zk_loopW (k + 1) ⟨by omega, by omega, hCk.no hCj⟩ (by omega) ⟨rfl, rfl, rfl, rfl, rfl, rfl, trivial⟩
  have gj := cell_no (hCk.no hCj) (hcell2 j (by omega))
  have gk' := cell_no hCj gk
  have hne := r2 j k hjl hkl
  rw [← hlk] at hne
  obtain ⟨lj, hlj⟩ : ∃ x, x = L.getD j 0 := ⟨_, rfl⟩
  rw [← hlj] at gj hne
  iterate 2 (refine zc_seq ?_)
  refine zc_region ?_
  iterate 2 (refine zl_pureL rfl ?_)
  refine z_cmpB (r := true) want_none (by decide) rfl rfl rfl (iff_of_true rfl (by omega)) ?_
  refine zl_nil ?_
  refine zk_seq ?_
  refine zc_true rfl ?_
  refine zc_skip ?_
  refine zk_seq ?_
  refine zc_seq ?_
  refine zc_block ?_
  refine zc_seq ?_
  refine zc_draw [] (fun w' => Chg u' w' No) (.take 0 (.take 1 (.take 2 (.take 3 (.take 4 (.take 5 (.take 6 (.take 7 (.take 8 (.fin)))))))))) (by rfl) (by kernel_rfl) (by kernel_rfl) (fun v3 hD3 _ => ⟨?_, ?_⟩)
  · exact hD3
  iterate 2 (refine zs_take rfl (zt_pure rfl ?_))
  refine zs_rdL rfl want_none rfl (by decide) (fun _ hS => r_ia rfl rfl (by omega) (by omega)) ?_
  refine zs_rdL rfl (by first | exact want_none | exact want_L rfl) rfl (by decide) (fun _ hS => r_load1 rfl (cell_at (cell_no hS gj) (by omega))) ?_
  iterate 2 (refine zs_take rfl (zt_pure rfl ?_))
  refine zs_rdL rfl want_none rfl (by decide) (fun _ hS => r_ia rfl rfl (by omega) (by omega)) ?_
  refine zs_rdL rfl (by first | exact want_none | exact want_L rfl) rfl (by decide) (fun _ hS => r_load1 rfl (cell_at (cell_no hS gk') (by omega))) ?_
  refine zs_rdL rfl want_none rfl (by decide) (fun _ hS => r_cmpB (r := false) rfl rfl rfl (iff_of_false Bool.false_ne_true (by omega))) ?_
  refine zs_fin ?_
  refine zk_seq ?_
  refine zc_false rfl ?_
  refine zc_skip ?_
  refine zk_norm_block ?_
  refine zk_seq ?_
  refine zc_region ?_
  refine zl_pureL rfl ?_
  refine z_add want_none (by decide) rfl rfl (by omega) (by omega) ?_
  refine zl_pureL rfl ?_
  refine zl_nil ?_
  exact zk_loopW (j + 1) ⟨by omega, hCj.no hD3⟩ (by omega) ⟨rfl, rfl, rfl, rfl, rfl, rfl, rfl, trivial⟩
end Go.Proofs.Yteeibieaapiomaa.D
/- RDoc -/
/- The document's Doc in memory, over the same nodes; what is read of it. -/
namespace Go.Proofs.Yteeibieaapiomaa.D
open Go Go.Z Go.Proofs
set_option linter.unusedVariables false
abbrev nV : Value := .slice none 0 0
def upC (N : List ND) : List Value := N.map (fun x => .int .i64 x.up)
theorem upC_len (N : List ND) : (upC N).length = N.length * 1 := by simp [upC]
theorem upC_get (N : List ND) (i : Nat) (h : i < N.length) : (upC N)[i]? = some (.int .i64 (N.getD i n0).up) := by
  simp [upC, List.getElem?_map, List.getElem?_eq_getElem h, List.getD_eq_getElem?_getD]
theorem upC_one (N : List ND) : ∀ u ∈ upC N, u.oneCell' = true := by
  intro u hu
  obtain ⟨s, _, rfl⟩ := List.mem_map.1 hu
  rfl
theorem upC_app (l r : List ND) : upC (l ++ r) = upC l ++ upC r := List.map_append
def RN (w : World) (m : MN) (x : ND) : Prop := HR w m (hdOf x) ∧ m.kids = nV
structure IsR (w : World) (p : Nat) (vn vu vr : Value) (ms : List MN) (ks : List Value) (N : List ND) : Prop where
  blk : Blk w p 123 [vn, vu, vr]
  own : Own w 52 7 vn N.length (encN ms)
  ups : Own w 3 1 vu N.length (upC N)
  rws : Own w 22 1 vr N.length ks
  lm : ms.length = N.length
  lk : ks.length = N.length
  at_ : ∀ i, i < N.length → RN w (ms.getD i MN.z) (N.getD i n0)
  kid : ∀ i, i < N.length → Own w 3 1 (ks.getD i nV) (N.getD i n0).kids.length (intC (N.getD i n0).kids) ∧ ∀ k, (ks.getD i nV).ownBlock = some k → vu.ownBlock ≠ some k
def fR (p : Nat) (vn vu vr : Value) (ks : List Value) (k : Nat) : Prop := k = p ∨ vn.ownBlock = some k ∨ vu.ownBlock = some k ∨ vr.ownBlock = some k ∨ ∃ i, i < ks.length ∧ (ks.getD i nV).ownBlock = some k
section
variable {w w' w1 w2 : World} {p : Nat} {vn vu vr : Value} {ms : List MN} {ks : List Value} {N : List ND} {S : Nat → Prop}
theorem HR.chg' {m : MN} {x : Hd} (h : HR w m x) (hc : Chg w w' S) (h45 : ∀ b cells, Blk w b 89 cells → ¬ S b) : HR w' m x := ⟨h.1, h.2.1, h.2.2.1, RdS.chg h.2.2.2.1 hc h45, h.2.2.2.2⟩
theorem IsR.chg (h : IsR w p vn vu vr ms ks N) (hc : Chg w w' S) (hS : ∀ k, fR p vn vu vr ks k → ¬ S k) (h45 : ∀ b cells, Blk w b 89 cells → ¬ S b) : IsR w' p vn vu vr ms ks N :=
  ⟨h.blk.chg hc (hS _ (.inl rfl)), h.own.chg hc (fun k hk => hS k (.inr (.inl hk))), h.ups.chg hc (fun k hk => hS k (.inr (.inr (.inl hk)))), h.rws.chg hc (fun k hk => hS k (.inr (.inr (.inr (.inl hk))))), h.lm, h.lk,
    fun i hi => ⟨(h.at_ i hi).1.chg' hc h45, (h.at_ i hi).2⟩, fun i hi => ⟨(h.kid i hi).1.chg hc (fun k hk => hS k (.inr (.inr (.inr (.inr ⟨i, by rw [h.lk]; exact hi, hk⟩))))), (h.kid i hi).2⟩⟩
theorem IsR.no (h : IsR w p vn vu vr ms ks N) (hc : Chg w w' No) : IsR w' p vn vu vr ms ks N := h.chg hc (fun _ _ => id) (fun _ _ _ => id)
theorem IsR.lt (h : IsR w p vn vu vr ms ks N) : ∀ k, fR p vn vu vr ks k → k < w.heap.size := by
  rintro k (rfl | hk | hk | hk | ⟨i, hi, hk⟩)
  · exact h.blk.lt
  · exact h.own.lt hk
  · exact h.ups.lt hk
  · exact h.rws.lt hk
  · exact (h.kid i (by rw [← h.lk]; exact hi)).1.lt hk
theorem IsR.no45 (h : IsR w p vn vu vr ms ks N) : ∀ b cells, Blk w b 89 cells → ¬ fR p vn vu vr ks b := by
  rintro b cells hb (rfl | hk | hk | hk | ⟨i, hi, hk⟩)
  · exact absurd (h.blk.inj hb).1 (by decide)
  · exact h.own.ne hk hb (by decide) rfl
  · exact h.ups.ne hk hb (by decide) rfl
  · exact h.rws.ne hk hb (by decide) rfl
  · exact (h.kid i (by rw [← h.lk]; exact hi)).1.ne hk hb (by decide) rfl
theorem IsR.formN (h : IsR w p vn vu vr ms ks N) : ∃ A c, vn = .slice A N.length c ∧ N.length ≤ c := h.own.rd.form
theorem IsR.formU (h : IsR w p vn vu vr ms ks N) : ∃ A c, vu = .slice A N.length c ∧ N.length ≤ c := h.ups.rd.form
theorem IsR.formR (h : IsR w p vn vu vr ms ks N) : ∃ A c, vr = .slice A N.length c ∧ N.length ≤ c := h.rws.rd.form
theorem IsR.up (h : IsR w p vn vu vr ms ks N) (i : Nat) (hi : i < N.length) : ∃ b o c, vu = .slice (some ⟨b, o, none⟩) N.length c ∧ w.cell? ⟨b, o + i, none⟩ = some (.int .i64 (N.getD i n0).up) := by
  obtain ⟨b, o, c, hv, _, hc⟩ := RdS.some h.ups.rd (by omega)
  exact ⟨b, o, c, hv, hc i _ (upC_get N i hi)⟩
theorem IsR.kd (h : IsR w p vn vu vr ms ks N) (i : Nat) (hi : i < N.length) : ∃ b o c A c', vr = .slice (some ⟨b, o, none⟩) N.length c ∧ w.cell? ⟨b, o + i, none⟩ = some (.slice A (N.getD i n0).kids.length c') ∧ ks.getD i nV = .slice A (N.getD i n0).kids.length c' ∧ (N.getD i n0).kids.length ≤ c' := by
  obtain ⟨b, o, c, hv, _, hc⟩ := RdS.some h.rws.rd (by omega)
  obtain ⟨A, c', hk, hc'⟩ := (h.kid i hi).1.rd.form
  refine ⟨b, o, c, A, c', hv, ?_, hk, hc'⟩
  rw [← hk]
  exact hc i _ (by rw [List.getD_eq_getElem?_getD, List.getElem?_eq_getElem (by rw [h.lk]; exact hi)]; rfl)
theorem IsR.nd (h : IsR w p vn vu vr ms ks N) (i : Nat) (hi : i < N.length) : ∃ b o c A, vn = .slice (some ⟨b, o, none⟩) N.length c ∧ NodeC w b (o + i * 7) (hdOf (N.getD i n0)) A nV ∧ AttrS w A (N.getD i n0).attrs := by
  obtain ⟨b, o, c, hv, _, hc⟩ := RdS.some h.own.rd (by omega)
  obtain ⟨⟨e1, e2, e3, e4, e5, e6⟩, e7⟩ := h.at_ i hi
  have hg := encN_get ms i (by rw [h.lm]; exact hi)
  refine ⟨b, o, c, (ms.getD i MN.z).attrs, hv, ?_, e4⟩
  constructor
  · have := hc _ _ (hg 0 _ rfl); rw [← e1]; exact this
  · have := hc _ _ (hg 1 _ rfl); rw [← e2, Nat.add_assoc]; exact this
  · have := hc _ _ (hg 2 _ rfl); rw [← e3, Nat.add_assoc]; exact this
  · have := hc _ _ (hg 3 _ rfl); rw [Nat.add_assoc]; exact this
  · have := hc _ _ (hg 4 _ rfl); rw [← e5, Nat.add_assoc]; exact this
  · have := hc _ _ (hg 5 _ rfl); rw [← e6, Nat.add_assoc]; exact this
  · have := hc _ _ (hg 6 _ rfl); rw [← e7, Nat.add_assoc]; exact this
end
structure WrR (w w' : World) (p : Nat) (vn vu vr : Value) (ks : List Value) (vn' vu' vr' : Value) (ks' : List Value) : Prop where
  chg : Chg w w' (fR p vn vu vr ks)
  ft : ∀ k, fR p vn' vu' vr' ks' k → fR p vn vu vr ks k ∨ w.heap.size ≤ k
  k45 : ∀ b cells, Blk w b 89 cells → Blk w' b 89 cells
section
variable {w w' w1 w2 : World} {p : Nat} {vn vu vr vn1 vu1 vr1 vn2 vu2 vr2 : Value} {ks ks1 ks2 : List Value}
theorem WrR.refl (w : World) (p : Nat) (vn vu vr : Value) (ks : List Value) : WrR w w p vn vu vr ks vn vu vr ks := ⟨Chg.refl _ _, fun _ h => .inl h, fun _ _ h => h⟩
theorem WrR.trans (h : WrR w w1 p vn vu vr ks vn1 vu1 vr1 ks1) (k : WrR w1 w2 p vn1 vu1 vr1 ks1 vn2 vu2 vr2 ks2) : WrR w w2 p vn vu vr ks vn2 vu2 vr2 ks2 := by
  refine ⟨h.chg.trans k.chg (fun i hi hf => ?_), fun i hf => ?_, fun b c hb => k.k45 b c (h.k45 b c hb)⟩
  · rcases h.ft i hf with h1 | h1
    · exact h1
    · omega
  · rcases k.ft i hf with h1 | h1
    · exact h.ft i h1
    · exact .inr (Nat.le_trans h.chg.size h1)
theorem WrR.of_no (hc : Chg w w' No) (p : Nat) (vn vu vr : Value) (ks : List Value) : WrR w w' p vn vu vr ks vn vu vr ks := ⟨hc.mono (fun _ _ h => h.elim), fun _ h => .inl h, fun _ _ h => h.no hc⟩
theorem WrR.no (h : WrR w w1 p vn vu vr ks vn1 vu1 vr1 ks1) (hc : Chg w1 w2 No) : WrR w w2 p vn vu vr ks vn1 vu1 vr1 ks1 := h.trans (WrR.of_no hc _ _ _ _ _)
theorem WrR.pre (hc : Chg w w1 No) (h : WrR w1 w2 p vn vu vr ks vn1 vu1 vr1 ks1) : WrR w w2 p vn vu vr ks vn1 vu1 vr1 ks1 := (WrR.of_no hc _ _ _ _ _).trans h
end
end Go.Proofs.Yteeibieaapiomaa.D
/- RDoc2 -/
/- The document's Doc: what is asked of it. -/
namespace Go.Proofs.Yteeibieaapiomaa.D
open Go Go.Z Go.Proofs
set_option linter.unusedVariables false
section
variable {w : World} {p : Nat} {vn vu vr : Value} {ms : List MN} {ks : List Value} {N : List ND}
theorem rIs_calls (h : IsR w p vn vu vr ms ks N) (n : Int) :
    Calls Try.prog 100 [.pointer (some ⟨p, 0, none⟩), .int .i64 n].toArray w fun e w' => e = .returned (.bool (decide (isN N n))) ∧ w' = w := by
  obtain ⟨A, c, rfl, hc⟩ := h.formN
  have hb := h.blk
  refine calls_zc (n := 16) (f := 100) (fn := Try.f100) Try.func100 rfl rfl (by simp) ?_
  refine zc_seq ?_
  refine zc_region ?_
  refine zl_pureL rfl ?_
  refine zl_nil ?_
  refine zk_seq ?_
  refine zc_seq ?_
  refine zc_region ?_
  refine zl_pureL rfl ?_
  by_cases h0 : 0 ≤ n
  · by_cases h1 : n < N.length
    · refine z_cmpB (r := true) want_none (by decide) rfl rfl rfl (iff_of_true rfl (by omega)) ?_
      iterate 4 (refine zl_pureL rfl ?_)
      refine z_fa (want_L rfl) (by decide) rfl ?_
      refine z_loadB (want_L rfl) (by decide) rfl (by assumption) (by rfl) ?_
      refine z_len (want_L rfl) (by decide) rfl ?_
      refine z_cmpB (r := true) (want_L rfl) (by decide) rfl rfl rfl (iff_of_true rfl (by omega)) ?_
      iterate 2 (refine zl_pureL rfl ?_)
      refine zl_nil ?_
      refine zk_seq ?_
      refine zc_ret ?_
      exact zk_ret1 (.inr rfl) rfl rfl ⟨by simp [isN, h0, h1], rfl⟩
    · refine z_cmpB (r := true) want_none (by decide) rfl rfl rfl (iff_of_true rfl (by omega)) ?_
      iterate 4 (refine zl_pureL rfl ?_)
      refine z_fa (want_L rfl) (by decide) rfl ?_
      refine z_loadB (want_L rfl) (by decide) rfl (by assumption) (by rfl) ?_
      refine z_len (want_L rfl) (by decide) rfl ?_
      refine z_cmpB (r := false) (want_L rfl) (by decide) rfl rfl rfl (iff_of_false Bool.false_ne_true (by omega)) ?_
      iterate 2 (refine zl_pureL rfl ?_)
      refine zl_nil ?_
      refine zk_seq ?_
      refine zc_ret ?_
      exact zk_ret1 (.inr rfl) rfl rfl ⟨by simp [isN, h0, h1], rfl⟩
  · refine z_cmpB (r := false) want_none (by decide) rfl rfl rfl (iff_of_false Bool.false_ne_true (by omega)) ?_
    iterate 4 (refine zl_pureL rfl ?_)
    iterate 4 (refine zl_skip rfl ?_)
    iterate 2 (refine zl_pureL rfl ?_)
    refine zl_nil ?_
    refine zk_seq ?_
    refine zc_ret ?_
    exact zk_ret1 (.inr rfl) rfl rfl ⟨by simp [isN, h0], rfl⟩
theorem rElem_calls (h : IsR w p vn vu vr ms ks N) (n : Int) :
    Calls Try.prog 104 [.pointer (some ⟨p, 0, none⟩), .int .i64 n].toArray w fun e w' => e = .returned (.bool (decide (isN N n ∧ (ndOf N n).kind = 1))) ∧ w' = w := by
  refine calls_zc (n := 19) (f := 104) (fn := Try.f104) Try.func104 rfl rfl (by simp) ?_
  refine zc_seq ?_
  refine zc_region ?_
  refine zl_pureL rfl ?_
  refine zl_nil ?_
  refine zk_seq ?_
  refine zc_seq ?_
  refine zc_region ?_
  iterate 2 (refine zl_pureL rfl ?_)
  refine zl_call (by first | exact want_none | exact want_L rfl) rfl (by decide) rfl (rIs_calls h n) ?_
  rintro _ u ⟨rfl, hu⟩
  obtain rfl := hu.symm
  refine ⟨_, rfl, ?_⟩
  by_cases h0 : isN N n
  · rw [decide_eq_true h0]
    obtain ⟨i, rfl⟩ := Int.eq_ofNat_of_zero_le h0.1
    have hi : i < N.length := by have := h0.2; omega
    obtain ⟨b, o, c, A, hv, hn, _⟩ := h.nd i hi
    subst hv
    have hb := h.blk
    have hc0 := hn.c0
    iterate 3 (refine zl_pureL rfl ?_)
    refine z_fa (want_L rfl) (by decide) rfl ?_
    refine z_loadB (want_L rfl) (by decide) rfl (by assumption) (by rfl) ?_
    refine zl_pureL rfl ?_
    refine z_ia (want_L rfl) (by decide) rfl rfl (by omega) (by omega) ?_
    refine z_fa (want_L rfl) (by decide) rfl ?_
    refine z_load1 (want_L rfl) (by decide) rfl (by assumption) ?_
    refine z_cmpB (r := decide ((N.getD i n0).kind = 1)) (by first | exact want_none | exact want_L rfl) (by decide) rfl rfl rfl (by simp [hdOf]) ?_
    by_cases hk : (N.getD i n0).kind = 1
    · rw [decide_eq_true hk]
      iterate 2 (refine zl_pureL rfl ?_)
      refine zl_nil ?_
      refine zk_seq ?_
      refine zc_ret ?_
      exact zk_ret1 (.inr rfl) rfl rfl ⟨by rw [decide_eq_true (show isN N i ∧ (ndOf N i).kind = 1 from ⟨h0, hk⟩)], rfl⟩
    · rw [decide_eq_false hk]
      iterate 2 (refine zl_pureL rfl ?_)
      refine zl_nil ?_
      refine zk_seq ?_
      refine zc_ret ?_
      exact zk_ret1 (.inr rfl) rfl rfl ⟨by rw [decide_eq_false (show ¬ (isN N i ∧ (ndOf N i).kind = 1) from fun hh => hk hh.2)], rfl⟩
  · rw [decide_eq_false h0]
    iterate 3 (refine zl_pureL rfl ?_)
    iterate 2 (refine zl_skip rfl ?_)
    refine zl_pureL rfl ?_
    iterate 4 (refine zl_skip rfl ?_)
    iterate 2 (refine zl_pureL rfl ?_)
    refine zl_nil ?_
    refine zk_seq ?_
    refine zc_ret ?_
    exact zk_ret1 (.inr rfl) rfl rfl ⟨by rw [decide_eq_false (show ¬ (isN N n ∧ (ndOf N n).kind = 1) from fun hh => h0 hh.1)], rfl⟩
theorem rUp_calls (h : IsR w p vn vu vr ms ks N) (n : Int) :
    Calls Try.prog 103 [.pointer (some ⟨p, 0, none⟩), .int .i64 n].toArray w fun e w' => e = .returned (.int .i64 (upOf N n)) ∧ w' = w := by
  refine calls_zc (n := 16) (f := 103) (fn := Try.f103) Try.func103 rfl rfl (by simp) ?_
  refine zc_seq ?_
  refine zc_region ?_
  refine zl_pureL rfl ?_
  refine zl_nil ?_
  refine zk_seq ?_
  iterate 2 (refine zc_seq ?_)
  refine zc_region ?_
  iterate 2 (refine zl_pureL rfl ?_)
  refine zl_call (by first | exact want_none | exact want_L rfl) rfl (by decide) rfl (rIs_calls h n) ?_
  rintro _ u ⟨rfl, hu⟩
  obtain rfl := hu.symm
  refine ⟨_, rfl, ?_⟩
  unfold upOf
  by_cases h0 : isN N n
  · rw [decide_eq_true h0, if_pos h0]
    obtain ⟨i, rfl⟩ := Int.eq_ofNat_of_zero_le h0.1
    have hi : i < N.length := by have := h0.2; omega
    obtain ⟨b, o, c, hv, hp⟩ := h.up i hi
    subst hv
    have hb := h.blk
    refine zl_pureL rfl ?_
    refine zl_nil ?_
    refine zk_seq ?_
    refine zc_false rfl ?_
    refine zc_skip ?_
    refine zk_seq ?_
    refine zc_seq ?_
    refine zc_region ?_
    iterate 2 (refine zl_pureL rfl ?_)
    refine z_fa want_none (by decide) rfl ?_
    refine z_loadB want_none (by decide) rfl (by assumption) (by rfl) ?_
    refine zl_pureL rfl ?_
    refine z_ia want_none (by decide) rfl rfl (by omega) (by omega) ?_
    refine z_load1 (by first | exact want_none | exact want_L rfl) (by decide) rfl (cell_at hp (by omega)) ?_
    refine zl_pureL rfl ?_
    refine zl_nil ?_
    refine zk_seq ?_
    refine zc_ret ?_
    exact zk_ret1 (.inr rfl) rfl rfl ⟨rfl, rfl⟩
  · rw [decide_eq_false h0, if_neg h0]
    refine zl_pureL rfl ?_
    refine zl_nil ?_
    refine zk_seq ?_
    refine zc_true rfl ?_
    refine zc_seq ?_
    refine zc_region ?_
    refine zl_pureL rfl ?_
    refine zl_nil ?_
    refine zk_seq ?_
    refine zc_ret ?_
    refine zk_ret_then ?_
    exact zk_ret1 (.inr rfl) rfl rfl ⟨rfl, rfl⟩
theorem rBelow_calls (h : IsR w p vn vu vr ms ks N) (hW : WF N) (n top : Nat) (hn : n < N.length) (ht : top < N.length) :
    Calls Try.prog 105 [.pointer (some ⟨p, 0, none⟩), .int .i64 n, .int .i64 top].toArray w fun e w' => ∃ q, e = .returned (.bool q) ∧ (q = true ↔ Anc N n top) ∧ w' = w := by
  have hb := h.blk
  obtain ⟨A, c, hvu, _⟩ := h.formU
  obtain ⟨d, hd⟩ := hW.rank
  refine calls_zc (n := 19) (f := 105) (fn := Try.f105) Try.func105 rfl rfl (by simp) ?_
  refine zc_seq ?_
  refine zc_region ?_
  refine zl_pureL rfl ?_
  refine zl_nil ?_
  refine zk_seq ?_
  refine zc_seq ?_
  refine zc_block ?_
  refine zc_loop (ι := Int) (fun k => [(0, .pointer (some ⟨p, 0, none⟩)), (1, .int .i64 k), (2, .int .i64 top)]) (fun _ => w) (fun k => (k = -1 ∧ ¬ Anc N n top) ∨ ∃ m : Nat, k = m ∧ m < N.length ∧ (Anc N m top ↔ Anc N n top)) (fun k => if k < 0 then 0 else d k.toNat + 1) (n : Int) (.inr ⟨n, rfl, hn, Iff.rfl⟩) ?_ ?_ ?_
  · rfl
  · exact ⟨rfl, rfl, rfl, trivial⟩
  rintro k hk
  rcases hk with ⟨rfl, hna⟩ | ⟨m, rfl, hm, hiff⟩
  · iterate 2 (refine zc_seq ?_)
    refine zc_region ?_
    refine zl_pureL rfl ?_
    refine z_cmpB (r := false) want_none (by decide) rfl rfl rfl (iff_of_false Bool.false_ne_true (by omega)) ?_
    refine zl_nil ?_
    refine zk_seq ?_
    refine zc_false rfl ?_
    refine zc_exit ?_
    iterate 2 (refine zk_exit_then ?_)
    refine zk_exit_block ?_
    refine zk_seq ?_
    refine zc_seq ?_
    refine zc_region ?_
    refine zl_pureL rfl ?_
    refine zl_nil ?_
    refine zk_seq ?_
    refine zc_ret ?_
    exact zk_ret1 (.inr rfl) rfl rfl ⟨false, rfl, no_ hna, rfl⟩
  · by_cases he : m = top
    · iterate 2 (refine zc_seq ?_)
      refine zc_region ?_
      refine zl_pureL rfl ?_
      refine z_cmpB (r := true) want_none (by decide) rfl rfl rfl (iff_of_true rfl (by omega)) ?_
      refine zl_nil ?_
      refine zk_seq ?_
      refine zc_true rfl ?_
      refine zc_skip ?_
      refine zk_seq ?_
      refine zc_block ?_
      iterate 2 (refine zc_seq ?_)
      refine zc_region ?_
      iterate 2 (refine zl_pureL rfl ?_)
      refine z_cmpB (r := true) want_none (by decide) rfl rfl rfl (iff_of_true rfl (by omega)) ?_
      refine zl_nil ?_
      refine zk_seq ?_
      refine zc_true rfl ?_
      refine zc_seq ?_
      refine zc_region ?_
      refine zl_pureL rfl ?_
      refine zl_nil ?_
      refine zk_seq ?_
      refine zc_ret ?_
      refine zk_ret_then ?_
      refine zk_ret_block ?_
      refine zk_ret_then ?_
      refine zk_ret_block ?_
      refine zk_ret_then ?_
      exact zk_ret1 (.inr rfl) rfl rfl ⟨true, rfl, iff_of_true rfl (hiff.1 (he ▸ Anc.refl m)), rfl⟩
    · obtain ⟨b', o', c', hv', hp'⟩ := h.up m hm
      rw [hv'] at hb
      obtain ⟨hu1, hu2⟩ := hW.up m hm
      iterate 2 (refine zc_seq ?_)
      refine zc_region ?_
      refine zl_pureL rfl ?_
      refine z_cmpB (r := true) want_none (by decide) rfl rfl rfl (iff_of_true rfl (by omega)) ?_
      refine zl_nil ?_
      refine zk_seq ?_
      refine zc_true rfl ?_
      refine zc_skip ?_
      refine zk_seq ?_
      refine zc_block ?_
      iterate 2 (refine zc_seq ?_)
      refine zc_region ?_
      iterate 2 (refine zl_pureL rfl ?_)
      refine z_cmpB (r := false) want_none (by decide) rfl rfl rfl (iff_of_false Bool.false_ne_true (by omega)) ?_
      refine zl_nil ?_
      refine zk_seq ?_
      refine zc_false rfl ?_
      refine zc_skip ?_
      refine zk_seq ?_
      refine zc_region ?_
      iterate 2 (refine zl_pureL rfl ?_)
      refine z_fa want_none (by decide) rfl ?_
      refine z_loadB want_none (by decide) rfl (by assumption) (by rfl) ?_
      refine zl_pureL rfl ?_
      refine z_ia want_none (by decide) rfl rfl (by omega) (by omega) ?_
      refine z_load1 (by first | exact want_none | exact want_L rfl) (by decide) rfl (cell_at hp' (by omega)) ?_
      refine zl_pureL rfl ?_
      refine zl_nil ?_
      refine zk_norm_block ?_
      by_cases hneg : (N.getD m n0).up = -1
      · refine zk_loop _ (.inl ⟨hneg, fun ha => ?_⟩) (by rw [hneg, if_pos (by decide), if_neg (by omega)]; omega) rfl ⟨rfl, rfl, rfl, trivial⟩
        have := hiff.2 ha
        cases this with
        | refl => exact he rfl
        | step _ m' _ hu' _ => rw [hneg] at hu'; omega
      · obtain ⟨m', hm'⟩ := Int.eq_ofNat_of_zero_le (show 0 ≤ (N.getD m n0).up by omega)
        have hdm := hd m hm m' hm'
        refine zk_loop _ (.inr ⟨m', hm', by omega, ?_⟩) (by rw [hm']; rw [if_neg (by omega), if_neg (by omega)]; simp only [Int.toNat_natCast]; omega) rfl ⟨rfl, rfl, rfl, trivial⟩
        rw [← hiff]
        refine ⟨fun ha => Anc.step m m' top hm' ha, fun ha => ?_⟩
        cases ha with
        | refl => exact absurd rfl he
        | step _ m'' _ hu' ha' =>
          have : m'' = m' := by rw [hm'] at hu'; omega
          subst this; exact ha'
/-- the place of a kid, from the begin on -/
def plI (r : Option Nat) : Int := match r with | some i => (i : Int) | none => -1
theorem rPlace_calls (h : IsR w p vn vu vr ms ks N) (hW : WF N) (up : Nat) (hup : up < N.length) (ahead : Int) (hkl : (N.getD up n0).kids.length ≤ 100000) :
    Calls Try.prog 106 [.pointer (some ⟨p, 0, none⟩), .int .i64 up, .int .i64 ahead].toArray w fun e w' => e = .returned (.int .i64 (plI (placeN (N.getD up n0).kids ahead))) ∧ w' = w := by
  obtain ⟨b, o, c, A, c', hv, hp, hk, hc'⟩ := h.kd up hup
  have hK := (h.kid up hup).1.rd
  have hb := h.blk
  rw [hv] at hb
  rw [hk] at hK
  refine calls_zc (n := 43) (f := 106) (fn := Try.f106) Try.func106 rfl rfl (by simp) ?_
  by_cases h1 : ahead = -1
  · subst h1
    refine zc_seq ?_
    refine zc_region ?_
    refine zl_pureL rfl ?_
    refine zl_nil ?_
    refine zk_seq ?_
    iterate 2 (refine zc_seq ?_)
    refine zc_region ?_
    refine zl_pureL rfl ?_
    refine z_cmpB (r := true) want_none (by decide) rfl rfl rfl (iff_of_true rfl (by omega)) ?_
    refine zl_nil ?_
    refine zk_seq ?_
    refine zc_true rfl ?_
    refine zc_seq ?_
    refine zc_region ?_
    iterate 2 (refine zl_pureL rfl ?_)
    refine z_fa want_none (by decide) rfl ?_
    refine z_loadB want_none (by decide) rfl (by assumption) (by rfl) ?_
    refine zl_pureL rfl ?_
    refine z_ia want_none (by decide) rfl rfl (by omega) (by omega) ?_
    refine z_load1 (by first | exact want_none | exact want_L rfl) (by decide) rfl (cell_at hp (by omega)) ?_
    refine z_len want_none (by decide) rfl ?_
    refine zl_pureL rfl ?_
    refine zl_nil ?_
    refine zk_seq ?_
    refine zc_ret ?_
    refine zk_ret_then ?_
    exact zk_ret1 (.inr rfl) rfl rfl ⟨by unfold placeN; rw [if_pos rfl]; rfl, rfl⟩
  · refine zc_seq ?_
    refine zc_region ?_
    refine zl_pureL rfl ?_
    refine zl_nil ?_
    refine zk_seq ?_
    iterate 2 (refine zc_seq ?_)
    refine zc_region ?_
    refine zl_pureL rfl ?_
    refine z_cmpB (r := false) want_none (by decide) rfl rfl rfl (iff_of_false Bool.false_ne_true (by omega)) ?_
    refine zl_nil ?_
    refine zk_seq ?_
    refine zc_false rfl ?_
    refine zc_skip ?_
    refine zk_seq ?_
    iterate 2 (refine zc_seq ?_)
    refine zc_region ?_
    refine zl_pureL rfl ?_
    refine zl_nil ?_
    refine zk_seq ?_
    refine zc_block ?_
    refine zc_loop (ι := Nat) (fun k => [(0, .pointer (some ⟨p, 0, none⟩)), (1, .int .i64 up), (2, .int .i64 ahead), (7, .int .i64 k)]) (fun _ => w) (fun k => k ≤ (N.getD up n0).kids.length ∧ ∀ j, j < k → ((N.getD up n0).kids.getD j 0 : Int) ≠ ahead) (fun k => (N.getD up n0).kids.length - k) 0 ⟨Nat.zero_le _, fun j hj => absurd hj (Nat.not_lt_zero _)⟩ ?_ ?_ ?_
    · rfl
    · exact ⟨rfl, rfl, rfl, rfl, trivial⟩
    rintro k ⟨hkk, hno⟩
    by_cases hlt : k < (N.getD up n0).kids.length
    · obtain ⟨bk, ok, ck, hvk, _, hck⟩ := RdS.some hK (by omega)
      cases hvk
      have hcell := hck k _ (intC_get _ k hlt)
      iterate 2 (refine zc_seq ?_)
      refine zc_region ?_
      iterate 3 (refine zl_pureL rfl ?_)
      refine z_fa want_none (by decide) rfl ?_
      refine z_loadB want_none (by decide) rfl (by assumption) (by rfl) ?_
      refine zl_pureL rfl ?_
      refine z_ia want_none (by decide) rfl rfl (by omega) (by omega) ?_
      refine z_load1 (by first | exact want_none | exact want_L rfl) (by decide) rfl (cell_at hp (by omega)) ?_
      refine z_len want_none (by decide) rfl ?_
      refine z_cmpB (r := true) want_none (by decide) rfl rfl rfl (iff_of_true rfl (by omega)) ?_
      refine zl_nil ?_
      refine zk_seq ?_
      refine zc_true rfl ?_
      refine zc_skip ?_
      refine zk_seq ?_
      refine zc_seq ?_
      refine zc_block ?_
      refine zc_seq ?_
      refine zc_region ?_
      iterate 2 (refine zl_pureL rfl ?_)
      refine z_fa want_none (by decide) rfl ?_
      refine z_loadB want_none (by decide) rfl (by assumption) (by rfl) ?_
      refine zl_pureL rfl ?_
      refine z_ia want_none (by decide) rfl rfl (by omega) (by omega) ?_
      refine z_load1 (by first | exact want_none | exact want_L rfl) (by decide) rfl (cell_at hp (by omega)) ?_
      refine zl_pureL rfl ?_
      refine z_ia want_none (by decide) rfl rfl (by omega) (by omega) ?_
      refine z_load1 (by first | exact want_none | exact want_L rfl) (by decide) rfl (cell_at hcell (by omega)) ?_
      by_cases he : ((N.getD up n0).kids.getD k 0 : Int) = ahead
      · refine zl_pureL rfl ?_
        refine z_cmpB (r := true) want_none (by decide) rfl rfl rfl (iff_of_true rfl (by omega)) ?_
        refine zl_nil ?_
        refine zk_seq ?_
        refine zc_true rfl ?_
        refine zc_seq ?_
        refine zc_region ?_
        iterate 2 (refine zl_pureL rfl ?_)
        refine zl_nil ?_
        refine zk_seq ?_
        refine zc_ret ?_
        refine zk_ret_block ?_
        iterate 2 (refine zk_ret_then ?_)
        refine zk_ret_block ?_
        refine zk_ret_then ?_
        refine zk_ret1 (.inr rfl) rfl rfl ⟨?_, rfl⟩
        unfold placeN
        rw [if_neg h1, if_pos (by omega)]
        have := findK_eq (hW.nodup up hup) hlt (a := ahead.toNat) (by omega) _ hlt (Nat.le_refl _)
        rw [this]; rfl
      · refine zl_pureL rfl ?_
        refine z_cmpB (r := false) want_none (by decide) rfl rfl rfl (iff_of_false Bool.false_ne_true (by omega)) ?_
        refine zl_nil ?_
        refine zk_seq ?_
        refine zc_false rfl ?_
        refine zc_skip ?_
        refine zk_norm_block ?_
        refine zk_seq ?_
        refine zc_region ?_
        refine zl_pureL rfl ?_
        refine z_add want_none (by decide) rfl rfl (by omega) (by omega) ?_
        refine zl_pureL rfl ?_
        refine zl_nil ?_
        exact zk_loop (k + 1) ⟨by omega, fun j hj => by
          by_cases hjk : j = k
          · subst hjk; exact he
          · exact hno j (by omega)⟩ (by omega) rfl ⟨rfl, rfl, rfl, get_int rfl (by simp), trivial⟩
    · iterate 2 (refine zc_seq ?_)
      refine zc_region ?_
      iterate 3 (refine zl_pureL rfl ?_)
      refine z_fa want_none (by decide) rfl ?_
      refine z_loadB want_none (by decide) rfl (by assumption) (by rfl) ?_
      refine zl_pureL rfl ?_
      refine z_ia want_none (by decide) rfl rfl (by omega) (by omega) ?_
      refine z_load1 (by first | exact want_none | exact want_L rfl) (by decide) rfl (cell_at hp (by omega)) ?_
      refine z_len want_none (by decide) rfl ?_
      refine z_cmpB (r := false) want_none (by decide) rfl rfl rfl (iff_of_false Bool.false_ne_true (by omega)) ?_
      refine zl_nil ?_
      refine zk_seq ?_
      refine zc_false rfl ?_
      refine zc_exit ?_
      iterate 2 (refine zk_exit_then ?_)
      refine zk_exit_block ?_
      refine zk_seq ?_
      refine zc_seq ?_
      refine zc_region ?_
      refine zl_pureL rfl ?_
      refine zl_nil ?_
      refine zk_seq ?_
      refine zc_ret ?_
      refine zk_ret1 (.inr rfl) rfl rfl ⟨?_, rfl⟩
      unfold placeN
      rw [if_neg h1]
      split
      · rename_i h0
        rw [findK_none (fun hm => ?_) _ (Nat.le_refl _)]
        · rfl
        · obtain ⟨j, hj, hje⟩ := List.getElem_of_mem hm
          refine hno j (by omega) ?_
          rw [List.getD_eq_getElem?_getD, List.getElem?_eq_getElem hj]
          simp only [Option.getD_some, hje]; omega
      · rfl
theorem rNode_calls (h : IsR w p vn vu vr ms ks N) (n : Int) :
    Calls Try.prog 78 [.pointer (some ⟨p, 0, none⟩), .int .i64 n].toArray w fun e w' => ∃ va, e = .returned (.agg #[.int .i64 (nodeOf N n).kind, .int .i64 (nodeOf N n).space, .string (nodeOf N n).name, va, .string (bs (nodeOf N n).text), .int .i64 0, .slice none 0 0]) ∧ AttrS w' va (nodeOf N n).attrs ∧ Chg w w' No := by
  refine calls_zc (n := 17) (f := 78) (fn := Try.f78) Try.func78 rfl rfl (by simp) ?_
  refine zc_seq ?_
  refine zc_region ?_
  refine z_alloc (by first | exact want_none | exact want_L rfl) (by decide) (fun w1 b1 hN1 => ?_)
  have hb1 : Blk w1 b1 52 [.int .i64 0, .int .i64 0, .string ⟨#[]⟩, .slice none 0 0, .string ⟨#[]⟩, .int .i64 0, .slice none 0 0] := hN1.blk
  have h1 := h.no hN1.chg
  have hge := hN1.ge (Chg.refl _ No)
  refine zl_nil ?_
  refine zk_seq ?_
  iterate 2 (refine zc_seq ?_)
  refine zc_region ?_
  iterate 2 (refine zl_pureL rfl ?_)
  refine zl_call (by first | exact want_none | exact want_L rfl) rfl (by decide) rfl (rIs_calls h1 n) ?_
  rintro _ u ⟨rfl, hu⟩
  obtain rfl := hu.symm
  refine ⟨_, rfl, ?_⟩
  by_cases h0 : isN N n
  · rw [decide_eq_true h0]
    have hx : nodeOf N n = ndOf N n := if_pos h0
    rw [hx]
    obtain ⟨i, rfl⟩ := Int.eq_ofNat_of_zero_le h0.1
    have hi : i < N.length := by have := h0.2; omega
    obtain ⟨b, o, c, A, hv, hn, hA⟩ := h1.nd i hi
    obtain ⟨A4, c4, rfl, _⟩ := hA.form
    subst hv
    have hb := h1.blk
    refine zl_pureL rfl ?_
    refine zl_nil ?_
    refine zk_seq ?_
    refine zc_false rfl ?_
    refine zc_skip ?_
    refine zk_seq ?_
    refine zc_seq ?_
    refine zc_region ?_
    iterate 2 (refine zl_pureL rfl ?_)
    refine z_fa want_none (by decide) rfl ?_
    refine z_loadB want_none (by decide) rfl (by assumption) (by rfl) ?_
    refine zl_pureL rfl ?_
    refine z_ia want_none (by decide) rfl rfl (by omega) (by omega) ?_
    refine z_loadA (by rfl) (by first | exact want_none | exact want_L rfl) (by decide) rfl (hn.agg (by omega)) ?_
    skip
    refine z_store (by first | exact want_none | exact want_L rfl) rfl rfl rfl (by assumption) (by first | exact Nat.le_refl _ | simp [Value.cells]) (by simp [Value.cells, Value.oneCell']) (fun w2 hU2 => ?_)
    have hb2 : Blk w2 b1 52 [.int .i64 (N.getD i n0).kind, .int .i64 (N.getD i n0).space, .string (N.getD i n0).name, .slice A4 (N.getD i n0).attrs.length c4, .string (bs (N.getD i n0).text), .int .i64 0, .slice none 0 0] := hU2.blk
    refine zl_nil ?_
    refine zk_seq ?_
    refine zc_ret ?_
    exact zk_retC (.inr rfl) rfl rfl hb2 rfl ⟨_, rfl, RdS.upd hA hU2 (by decide), hN1.chg.upd hU2 hge⟩
  · rw [decide_eq_false h0]
    have hx : nodeOf N n = n0 := if_neg h0
    rw [hx]
    refine zl_pureL rfl ?_
    refine zl_nil ?_
    refine zk_seq ?_
    refine zc_true rfl ?_
    refine zc_seq ?_
    refine zc_region ?_
    refine z_buildE #[.int .i64 0, .int .i64 0, .string ⟨#[]⟩, .slice none 0 0, .string ⟨#[]⟩, .int .i64 0, .slice none 0 0] (by first | exact want_none | exact want_L rfl) (by decide) rfl (by kernel_rfl) ?_
    refine z_store (by first | exact want_none | exact want_L rfl) rfl rfl rfl (by assumption) (by first | exact Nat.le_refl _ | simp [Value.cells]) (by simp [Value.cells, Value.oneCell']) (fun w2 hU2 => ?_)
    have hb2 : Blk w2 b1 52 [.int .i64 0, .int .i64 0, .string ⟨#[]⟩, .slice none 0 0, .string ⟨#[]⟩, .int .i64 0, .slice none 0 0] := hU2.blk
    refine zl_nil ?_
    refine zk_seq ?_
    refine zc_ret ?_
    refine zk_ret_then ?_
    exact zk_retC (.inr rfl) rfl rfl hb2 rfl ⟨.slice none 0 0, rfl, AttrS.nil _, hN1.chg.upd hU2 hge⟩
end
end Go.Proofs.Yteeibieaapiomaa.D
/- RDraw -/
/- A region that draws its order, told operation by operation, stores too; an operation may end what another told. Over any program. -/
namespace Go.Z
open Go
def dstOf (ops : Array Oper) (j : Nat) : Option Tmp := (ops[j]?).bind (·.dst)
def okDstS (keys : List Nat) (n : Nat) (ops : Array Oper) : Bool :=
  (List.range ops.size).all fun i => match dstOf ops i with
    | some d => decide (d < n) && !keys.contains d && (List.range ops.size).all fun j => i == j || dstOf ops j != some d
    | none => true
theorem okDstS_at {keys : List Nat} {n : Nat} {ops : Array Oper} (h : okDstS keys n ops = true) {i : Nat} (hi : i < ops.size) {d : Tmp} (hd : dstOf ops i = some d) : d < n ∧ d ∉ keys ∧ ∀ j, j < ops.size → j ≠ i → dstOf ops j ≠ some d := by
  have h1 := List.all_eq_true.1 h i (List.mem_range.2 hi)
  simp only [hd, Bool.and_eq_true, decide_eq_true_eq, Bool.not_eq_true', List.all_eq_true, List.mem_range, Bool.or_eq_true, beq_iff_eq, bne_iff_ne] at h1
  obtain ⟨⟨h2, h3⟩, h4⟩ := h1
  refine ⟨h2, fun hk => ?_, fun j hj hji => ?_⟩
  · have : keys.contains d = true := by simpa using hk
    rw [this] at h3; cases h3
  · rcases h4 j hj with e | e
    · exact absurd e.symm hji
    · exact e
theorem wpAny_inv {P : Program} {ops : Array Oper} {Q : Exit → Act → World → Prop} (I : Array Bool → Act → World → Prop)
    (hstep : ∀ l a w i, l.size = ops.size → i ∈ Region.ready .any ops l → I l a w → wpOp P ops Q i (I (l.setIfInBounds i true)) a w)
    (hend : ∀ l a w, l.size = ops.size → Region.ready .any ops l = [] → I l a w → Q .normal a w) :
    ∀ (f : Nat) (l : Array Bool) (a : Act) (w : World), l.size = ops.size → l.toList.count false ≤ f → I l a w → wpAny P .any ops Q f l a w
  | 0, l, a, w, hsz, hc, h => by
    have h0 : Region.ready .any ops l = [] := by
      refine List.eq_nil_iff_forall_not_mem.2 (fun j hj => ?_)
      obtain ⟨h1, _⟩ := mem_ready.1 hj
      rcases Nat.lt_or_ge j l.size with h' | h'
      · have h2 : l[j] = false := by simpa [h'] using h1
        have h3 : false ∈ l.toList := by rw [← h2]; simp
        have := List.count_pos_iff.2 h3
        omega
      · simp [Array.getElem?_eq_none h'] at h1
    exact ⟨h0, hend l a w hsz h0 h⟩
  | f + 1, l, a, w, hsz, hc, h => by
    refine ⟨fun h0 => hend l a w hsz h0 h, fun i hi => ?_⟩
    refine wpOp_mono (fun a' w' h' => wpAny_inv I hstep hend f _ a' w' (by simpa using hsz) ?_ h') (hstep l a w i hsz hi h)
    obtain ⟨h1, _⟩ := mem_ready.1 hi
    rcases Nat.lt_or_ge i l.size with h' | h'
    · have h2 : l[i] = false := by simpa [h'] using h1
      have h3 := List.count_set (a := true) (b := false) (l := l.toList) (i := i) (by simpa using h')
      have h4 : l.toList[i]'(by simpa using h') = false := by simpa using h2
      rw [h4] at h3
      rw [Array.toList_setIfInBounds, h3]
      have e1 : (if (false == false) = true then 1 else 0) = 1 := rfl
      have e2 : (if (true == false) = true then 1 else 0) = 0 := rfl
      rw [e1, e2]
      have hc' : List.count false l.toList ≤ f + 1 := hc
      omega
    · simp [Array.getElem?_eq_none h'] at h1
section
variable {P : Program} {n : Nat} {e : Env} {w : World} {Q : Exit → Act → World → Prop}
/-- what an operation may look at, where some things hold no more -/
structure LkK (ops : Array Oper) (n : Nat) (e0 : Env) (G : Nat → Value → World → Prop) (T : World → Prop) (D K : Nat → Prop) (a : Act) (w : World) : Prop where
  ok : Ok n e0 a
  t : T w
  dep : ∀ j, D j → ∀ d, dstOf ops j = some d → ∃ v, a.tmps[d]? = some v ∧ (¬ K j → G j v w)
theorem get_keys : ∀ (e : Env) (k : Nat) (v : Value), Env.get e k = some v → k ∈ e.map Prod.fst
  | [], k, v, h => by simp [Env.get] at h
  | (j, u) :: r, k, v, h => by
    unfold Env.get at h
    split at h
    · rename_i hj; simp [hj]
    · exact List.mem_cons_of_mem _ (get_keys r k v h)
theorem waits_of {ops : Array Oper} {l : Array Bool} {i j : Nat} (h : i ∈ Region.ready .any ops l) (hw : waits ops i j = true) : l.getD j false = true := by
  obtain ⟨_, o, ho, hall⟩ := mem_ready.1 h
  simp only [waits, ho] at hw
  obtain ⟨e, he, hb⟩ := Array.any_eq_true'.1 hw
  simp only [Bool.and_eq_true, beq_iff_eq] at hb
  have := hall e he hb.1
  rwa [hb.2] at this
/-- each operation waits for earlier ones alone -/
def fwdS (ops : Array Oper) : Bool := (List.range ops.size).all fun i => match ops[i]? with
  | some o => o.after.all fun e => !Region.binds .any e || decide (e.on < i)
  | none => true
theorem fwdS_live {ops : Array Oper} (h : fwdS ops = true) {b : Array Bool} (hsz : b.size = ops.size) (h0 : Region.ready .any ops b = []) : ∀ i, i < ops.size → b.getD i false = true := by
  intro i
  induction i using Nat.strongRecOn with
  | ind i ih =>
    intro hi
    rcases hb : b.getD i false with _ | _
    · exfalso
      have hin : i ∈ Region.ready .any ops b := by
        refine mem_ready.2 ⟨?_, ops[i], by simp [hi], fun e he hbe => ?_⟩
        · have : i < b.size := by omega
          simpa [this] using hb
        · have h1 := List.all_eq_true.1 h i (List.mem_range.2 hi)
          have h2 : ops[i]? = some ops[i] := by simp [hi]
          simp only [h2] at h1
          have h3 := Array.all_eq_true_iff_forall_mem.1 h1 e he
          have h4 : e.on < i := by
            simp only [Bool.or_eq_true, Bool.not_eq_true', decide_eq_true_eq] at h3
            rcases h3 with h3 | h3
            · rw [hbe] at h3; cases h3
            · exact h3
          exact ih e.on h4 (by omega)
      rw [h0] at hin; cases hin
    · rfl
theorem fwdS_lt {ops : Array Oper} (h : fwdS ops = true) {i j : Nat} (hw : waits ops i j = true) (hi : i < ops.size) : j < i := by
  have h1 := List.all_eq_true.1 h i (List.mem_range.2 hi)
  have h2 : ops[i]? = some ops[i] := by simp [hi]
  simp only [h2] at h1
  simp only [waits, h2] at hw
  obtain ⟨e, he, hb⟩ := Array.any_eq_true'.1 hw
  simp only [Bool.and_eq_true, beq_iff_eq] at hb
  have h3 := Array.all_eq_true_iff_forall_mem.1 h1 e he
  simp only [Bool.or_eq_true, Bool.not_eq_true', decide_eq_true_eq] at h3
  rcases h3 with h3 | h3
  · rw [hb.1] at h3; cases h3
  · omega
theorem gd_ne {b : Array Bool} {i m : Nat} (h : i ≠ m) (x : Bool) : (b.setIfInBounds i true).getD m x = b.getD m x := by
  simp only [Array.getD_eq_getD_getElem?, Array.getElem?_setIfInBounds_ne h]
theorem gd_rep (k j : Nat) : (Array.replicate k false).getD j false = false := by
  simp only [Array.getD_eq_getD_getElem?, Array.getElem?_replicate]
  split <;> rfl
/-- operation i; thing j holds till operation kill j has come -/
def StepS (P : Program) (ops : Array Oper) (n : Nat) (e0 : Env) (G : Nat → Value → World → Prop) (kill : Nat → Nat) (T : Array Bool → World → Prop) (Q : Exit → Act → World → Prop) (i : Nat) : Prop :=
  ∀ b a w, b.size = ops.size → b.getD i false = false → (∀ k j, b.getD k false = true → waits ops k j = true → b.getD j false = true) → (∀ j, waits ops i j = true → b.getD j false = true) → LkK ops n e0 G (T b) (fun j => waits ops i j = true) (fun j => ¬ (kill j = i ∨ ops.size ≤ kill j)) a w →
    wpOp P ops (NP Q) i (fun a' w' => (∀ d, dstOf ops i = some d → ∃ v, a' = a.put (some d) v ∧ G i v w') ∧ (dstOf ops i = none → a' = a) ∧ T (b.setIfInBounds i true) w' ∧ ∀ j u, j ≠ i → kill j ≠ i → G j u w → G j u w') a w
theorem LkK.putS {ops : Array Oper} {e0 : Env} {G : Nat → Value → World → Prop} {kill : Nat → Nat} {T T' : World → Prop} (hok : okDstS (e0.map Prod.fst) n ops = true) {D K : Nat → Prop} (hD : ∀ j, D j → j < ops.size) {a a' : Act} {w w' : World} (h : LkK ops n e0 G T D K a w) {i : Nat} (hi : i < ops.size) (hni : ¬ D i)
    (hG : ∀ d, dstOf ops i = some d → ∃ v, a' = a.put (some d) v ∧ G i v w') (hN : dstOf ops i = none → a' = a) (hT : T' w') (hf : ∀ j u, j ≠ i → kill j ≠ i → G j u w → G j u w') : LkK ops n e0 G T' (fun j => D j ∨ j = i) (fun j => K j ∨ kill j = i) a' w' := by
  cases hd : dstOf ops i with
  | none =>
    obtain rfl := hN hd
    refine ⟨h.ok, hT, fun j hj dj hdj => ?_⟩
    rcases hj with hj | rfl
    · obtain ⟨u, h1, h2⟩ := h.dep j hj dj hdj
      exact ⟨u, h1, fun hk => hf j u (fun he => hni (he ▸ hj)) (fun he => hk (.inr he)) (h2 (fun he => hk (.inl he)))⟩
    · rw [hd] at hdj; cases hdj
  | some d =>
    obtain ⟨v, rfl, hGv⟩ := hG d hd
    obtain ⟨hdn, hdk, hdo⟩ := okDstS_at hok hi hd
    have hsz := h.ok.size
    refine ⟨⟨h.ok.defers, by simp [Act.put, hsz], fun k u hk => ?_⟩, hT, fun j hj dj hdj => ?_⟩
    · have hne : d ≠ k := fun he => hdk (he ▸ get_keys e0 k u hk)
      simp only [Act.put, Array.getElem?_setIfInBounds_ne hne]
      exact h.ok.at_ k u hk
    · rcases hj with hj | rfl
      · obtain ⟨u, h1, h2⟩ := h.dep j hj dj hdj
        have hne : d ≠ dj := fun he => hdo j (hD j hj) (fun hji => hni (hji ▸ hj)) (he ▸ hdj)
        exact ⟨u, by simp only [Act.put, Array.getElem?_setIfInBounds_ne hne]; exact h1, fun hk => hf j u (fun he => hni (he ▸ hj)) (fun he => hk (.inr he)) (h2 (fun he => hk (.inl he)))⟩
      · rw [hd] at hdj; cases hdj
        exact ⟨v, by simp [Act.put, hsz, hdn], fun _ => hGv⟩
theorem zc_drawS {id : Nat} {l : List Oper} (G : Nat → Value → World → Prop) (kill : Nat → Nat) (T : Array Bool → World → Prop) (e0 : Env) (hm : P.follows .mixedOrders = true) (hok : okDstS (e0.map Prod.fst) n l.toArray = true) (hfw : fwdS l.toArray = true) (hsub : Sub e0 e) (hT : ∀ w', Chg w w' No → w'.heap = w.heap → T (Array.replicate l.toArray.size false) w')
    (hstep : ∀ i, i < l.toArray.size → StepS P l.toArray n e0 G kill T Q i)
    (hfin : ∀ b a w', (∀ i, i < l.toArray.size → b.getD i false = true) → LkK l.toArray n e0 G (T b) (fun j => j < l.toArray.size) (fun j => ¬ l.toArray.size ≤ kill j) a w' → NP Q .normal a w') : ZC P n (.region id l.toArray true) e w Q := by
  unfold ZC
  intro a ha
  refine wp_mono (wp_region_any (Q := NP Q) hm ?_) NP.le
  refine wpAny_inv (fun b a w => (∀ k j, b.getD k false = true → waits l.toArray k j = true → b.getD j false = true) ∧ LkK l.toArray n e0 G (T b) (fun j => j < l.toArray.size ∧ b.getD j false = true) (fun j => b.getD (kill j) false = true) a w) ?_ ?_ _ _ _ _ (by simp) (by simp [List.count_replicate]) ?_
  · intro b a w i hsz hi ⟨hcl, h⟩
    obtain ⟨h0, o, ho, _⟩ := mem_ready.1 hi
    have hlt : i < l.toArray.size := (Array.getElem?_eq_some_iff.1 ho).1
    have hb : b.getD i false = false := by
      have h1 : i < b.size := by omega
      simpa [h1] using h0
    have hni : ¬ (i < l.toArray.size ∧ b.getD i false = true) := fun hh => by rw [hb] at hh; cases hh.2
    have hkl : ∀ j, (kill j = i ∨ l.toArray.size ≤ kill j) → b.getD (kill j) false = false := fun j hj => by
      rcases hj with hj | hj
      · rw [hj]; exact hb
      · have h' : b.size ≤ kill j := by omega
        simp [Array.getElem?_eq_none h']
    have hw := hstep i hlt b a w hsz hb hcl (fun j hj => waits_of hi hj) ⟨h.ok, h.t, fun j hj d hd => by
      obtain ⟨v, h1, h2⟩ := h.dep j ⟨by have := fwdS_lt hfw hj hlt; omega, waits_of hi hj⟩ d hd
      exact ⟨v, h1, fun hk => h2 (fun he => by rw [hkl j (Classical.not_not.1 hk)] at he; cases he)⟩⟩
    refine wpOp_mono (fun a' w' ⟨hG, hN, hT', hf⟩ => ⟨?_, ?_⟩) hw
    · intro k j hk hw'
      by_cases hj : j = i
      · subst hj
        have h3 : j < b.size := by omega
        simp [h3]
      · rw [gd_ne (Ne.symm hj)]
        by_cases hk' : k = i
        · subst hk'; exact waits_of hi hw'
        · rw [gd_ne (Ne.symm hk')] at hk
          exact hcl k j hk hw'
    · have := LkK.putS hok (fun j hj => hj.1) h hlt hni hG hN hT' hf
      refine ⟨this.ok, this.t, fun j hj dj hdj => ?_⟩
      obtain ⟨v, h1, h2⟩ := this.dep j (by
        by_cases hji : j = i
        · exact .inr hji
        · refine .inl ⟨hj.1, ?_⟩
          have := hj.2
          rwa [gd_ne (Ne.symm hji)] at this) dj hdj
      refine ⟨v, h1, fun hk => h2 (fun he => hk ?_)⟩
      rcases he with he | he
      · by_cases hki : i = kill j
        · rw [← hki] at he; rw [hb] at he; cases he
        · rw [gd_ne hki]; exact he
      · rw [he]
        have h3 : i < b.size := by omega
        simp [h3]
  · intro b a w hsz h0 ⟨hcl, h⟩
    have hlv := fwdS_live hfw hsz h0
    have hkl : ∀ j, l.toArray.size ≤ kill j → b.getD (kill j) false = false := fun j hj => by
      have h' : b.size ≤ kill j := by omega
      simp [Array.getElem?_eq_none h']
    exact hfin b a w hlv ⟨h.ok, h.t, fun j hj d hd => by
      obtain ⟨v, h1, h2⟩ := h.dep j ⟨hj, hlv j hj⟩ d hd
      exact ⟨v, h1, fun hk => h2 (fun he => by rw [hkl j (Classical.not_not.1 hk)] at he; cases he)⟩⟩
  · refine ⟨(by intro k j hk; rw [gd_rep] at hk; cases hk), ha.sub hsub, hT _ ⟨rfl, rfl, rfl, Nat.le_refl _, fun _ _ _ => rfl⟩ rfl, fun j hj => ?_⟩
    have := hj.2
    rw [gd_rep] at this; cases this
theorem np_zk {a : Act} (h : ZK n .normal e w Q) (ha : Ok n e a) : NP Q .normal a w := by
  unfold ZK at h
  exact h a ha
/-! one operation -/
theorem Ok.cons {e : Env} {a : Act} {d : Nat} {v : Value} (h : Ok n e a) (hv : a.tmps[d]? = some v) : Ok n ((d, v) :: e) a := by
  refine ⟨h.defers, h.size, fun k u hk => ?_⟩
  simp only [Env.get] at hk
  split at hk
  · rename_i hdk; subst hdk; rw [hv]; exact hk
  · exact h.at_ k u hk
variable {ops : Array Oper} {K : Act → World → Prop} {i : Nat} {o : Oper} {d : Tmp} {v : Value} {a : Act}
theorem wo_run {w' : World} (hi : ops[i]? = some o) (hw : Want ops e o.guard) (hd : o.dst = some d) (ha : Ok n e a) (hr : ∀ a, Ok n e a → (execOp a.eval o).run P w = .ok (.value v) w') (h : K (a.put (some d) v) w') : wpOp P ops (NP Q) i K a w := by
  unfold wpOp
  simp only [hi, hw.wanted ha, if_true]
  refine .inl ?_
  unfold Oper.wp
  rw [hr a ha, Oper.upon_value, hd]
  exact h
theorem wo_runU {w' : World} (hi : ops[i]? = some o) (hw : Want ops e o.guard) (hd : o.dst = none) (ha : Ok n e a) (hr : ∀ a, Ok n e a → (execOp a.eval o).run P w = .ok .skip w') (h : K a w') : wpOp P ops (NP Q) i K a w := by
  unfold wpOp
  simp only [hi, hw.wanted ha, if_true]
  refine .inl ?_
  unfold Oper.wp
  rw [hr a ha, Oper.upon_skip, hd]
  exact h
theorem wo_pure (hi : ops[i]? = some o) (ha : Ok n e a) (hs : stepP n ops e o = some (d, v)) (h : K (a.put (some d) v) w) : wpOp P ops (NP Q) i K a w := by
  obtain ⟨hd, hdn, hy⟩ := stepP_yields (P := P) hs
  exact (hy a ha).wpOp hi (by rw [hd]; exact h)
theorem wo_store {t : TypeId} {x y : Operand} {b of : Nat} {bt : TypeId} {cs : List Value} {s k : Nat} {z : Value} {ty : TypeId} {pos : String} {aft : Array Edge} {g : Option (Nat × Bool)} [hz : Inf P t s k z] (hi : ops[i]? = some ⟨none, .store t x y, ty, pos, aft, g⟩) (hw : Want ops e g) (ha : Ok n e a) (hx : ev e x = some (.pointer (some ⟨b, of, none⟩))) (hy : ev e y = some v) (hs : v.cells.size = s) (hb : Blk w b bt cs)
    (hfit : of + s ≤ cs.length) (h1 : ∀ u ∈ v.cells.toList, u.oneCell' = true) (h : ∀ w', Upd w w' b bt (lay cs of v.cells.toList) → K a w') : wpOp P ops (NP Q) i K a w :=
  wo_runU hi hw rfl ha (fun a ha => by simp [execOp, ha.ev hx, ha.ev hy, run_storeAt hs hb hfit h1]) (h _ (Upd.setRow hb))
theorem wo_call {dst : Option Tmp} {f : FuncId} {l : List Operand} {ats : Array TypeId} {ty : TypeId} {pos : String} {aft : Array Edge} {g : Option (Nat × Bool)} {vs : List Value} {R : Ending → World → Prop} [hf : IsFn P f]
    (hi : ops[i]? = some ⟨dst, .call { callee := .value (.func f), args := l.toArray, argTypes := ats }, ty, pos, aft, g⟩) (hw : Want ops e g) (hd : dst = some d) (ha : Ok n e a) (hx : evs e l = some vs)
    (hc : Calls P f vs.toArray w R) (h : ∀ x w', R x w' → ∃ v, x = .returned v ∧ K (a.put (some d) v) w') : wpOp P ops (NP Q) i K a w := by
  subst hd
  obtain ⟨fn, h1, h2, h3⟩ := hf.ex
  unfold wpOp
  rw [hi]
  simp only [Want.wanted (o := ⟨some d, .call { callee := .value (.func f), args := l.toArray, argTypes := ats }, ty, pos, aft, g⟩) hw ha, if_true]
  refine .inl ?_
  unfold Oper.wp
  have hm : l.map a.eval = vs := evs_map ha hx
  have h2' : ¬ fn.name = "runtime.NumGoroutine" := by simpa using h2
  have h3' : ¬ fn.body = none := fun h => by simp [h] at h3
  have hr : (execOp a.eval (⟨some d, .call { callee := .value (.func f), args := l.toArray, argTypes := ats }, ty, pos, aft, g⟩ : Oper)).run P w = .ok (.enter f vs.toArray) w := by
    simp [execOp, resolve, Act.eval, Deferred.ofValue, invoke, callFunc, h1, h2', h3', hm]
  rw [hr, Oper.upon_enter]
  refine hc.mono fun x w' hx => ?_
  obtain ⟨v, rfl, hz⟩ := h x w' hx
  exact hz
end
section
variable {P : Program} {n : Nat} {e : Env} {w : World} {Q : Exit → Act → World → Prop} {ops : Array Oper} {rest : List Oper}
variable {d : Tmp} {ty : TypeId} {pos : String} {aft : Array Edge} {g : Option (Nat × Bool)} {ks : List Nat} {S : World → Prop}
theorem run_bsE {t el : TypeId} {len s k : Nat} {z : Value} {parts : List (Nat × Operand)} {pv : List (Nat × Value)} (cells : List Value) [hu : Und P t (.slice el)] [hz : Inf P el s k z] (hp : evp e parts = some pv)
    (hsm : len * s ≤ 16777216) (hpos : len * s ≠ 0) (hf : Instr.fill (fun i => some (i * s, s)) ((Array.range (len * s)).map (z.cells[· % z.cells.size]!)) pv = some cells.toArray) :
    ∀ a, Ok n e a → (execOp a.eval (⟨some d, .buildSlice t len parts.toArray, ty, pos, aft, g⟩ : Oper)).run P w = .ok (.value (.slice (some ⟨w.heap.size, 0, none⟩) len len)) { w with heap := w.heap.push (.cells cells.toArray el) } := fun A hA => by
  have h1 := evp_map hA hp
  have h2 : ¬ (len * s > 2 ^ 24) := by omega
  simp only [execOp, Sem.run_bind, List.map_toArray]
  rw [h1]
  simp only [Instr.buildSlice, Sem.run_bind, run_underlying hu.eq, Result.andThen_ok, hz.size w]
  rw [if_neg h2, if_neg hpos]
  simp only [pure_bind, Sem.run_bind, hz.zero w, Result.andThen_ok, Sem.run_pure]
  rw [hf]
  simp [newRow]
end
end Go.Z
/- RLay -/
/- The document's Doc: a node more. -/
namespace Go.Z
open Go
section
variable {P : Program} {n : Nat} {e : Env} {w : World} {Q : Exit → Act → World → Prop} {ops : Array Oper} {K : Act → World → Prop} {i : Nat} {d : Tmp} {a : Act} {ty : TypeId} {pos : String} {aft : Array Edge} {g : Option (Nat × Bool)}
theorem wo_append {s x : Operand} {t el : TypeId} {sz k m m' : Nat} {z v xv : Value} {xs news : List Value} [hu : Und P t (.slice el)] [hz : Inf P el sz k z] (hzs : z.cells.size = sz) (hsz : 0 < sz)
    (hi : ops[i]? = some ⟨some d, .call { callee := .builtin .append, args := #[s, x], argTypes := #[t, t] }, ty, pos, aft, g⟩) (hw : Want ops e g) (ha : Ok n e a)
    (hs : ev e s = some v) (hx : ev e x = some xv) (hown : Own w el sz v m xs) (hnews : RdS w el sz xv m' news) (h63 : m + m' ≤ 9223372036854775807) (hby : (m + m') * k ≤ 140737488355328)
    (h : ∀ v' w', Own w' el sz v' (m + m') (xs ++ news) → Chg w w' (fun k => v.ownBlock = some k) → (v'.ownBlock = v.ownBlock ∨ ∃ k, v'.ownBlock = some k ∧ w.heap.size ≤ k) → K (a.put (some d) v') w') : wpOp P ops (NP Q) i K a w := by
  obtain ⟨v', w', hr, h1, h2, h3⟩ := append_run (P := P) (n := n) (d := d) (ty := ty) (pos := pos) (aft := aft) (g := g) (t := t) hzs hsz hs hx hown hnews h63 hby
  exact wo_run hi hw rfl ha hr (h v' w' h1 h2 h3)
theorem gS {ops : Array Oper} {G : Nat → Value → World → Prop} {i d0 : Nat} {v : Value} (h0 : dstOf ops i = some d0) (hG : G i v w) : ∀ d, dstOf ops i = some d → ∃ u, a.put (some d0) v = a.put (some d) u ∧ G i u w := fun d hd => by
  rw [h0] at hd; cases hd; exact ⟨v, rfl, hG⟩
theorem gN {ops : Array Oper} {G : Nat → Value → World → Prop} {i : Nat} {a' : Act} (h0 : dstOf ops i = none) : ∀ d, dstOf ops i = some d → ∃ u, a' = a.put (some d) u ∧ G i u w := fun d hd => by
  rw [h0] at hd; cases hd
theorem gT {ops : Array Oper} {i d0 : Nat} {a' : Act} (h0 : dstOf ops i = some d0) : dstOf ops i = none → a' = a := fun hd => by
  rw [h0] at hd; cases hd
theorem gd_eq {b : Array Bool} {i : Nat} (h : i < b.size) : (b.setIfInBounds i true).getD i false = true := by simp [h]
/-! what a change of blocks of one type leaves -/
variable {w' : World} {R : Nat → Prop} {τ : Nat}
end
end Go.Z
namespace Go.Proofs.Yteeibieaapiomaa.D
open Go Go.Z Go.Proofs
set_option linter.unusedVariables false
abbrev mOne : Value := .int .i64 (-1)
def NX (t sz : Nat) (v0 : Value) (W m : Nat) (cs : List Value) (v : Value) (w : World) : Prop := Own w t sz v m cs ∧ (v.ownBlock = v0.ownBlock ∨ ∃ k, v.ownBlock = some k ∧ W ≤ k)
structure LayA where
  p : Nat
  nb : Nat
  W : Nat
  n : Nat
  vn : Value
  vu : Value
  vr : Value
  cn : List Value
  cu : List Value
  cr : List Value
  mc : List Value
def GL (q : LayA) : Nat → Value → World → Prop
  | 0, v, _ => v = pv q.p
  | 1, v, _ => v = pv q.p
  | 2, v, _ => v = pv q.p
  | 3, v, _ => v = pv q.p
  | 4, v, _ => v = pv q.p
  | 5, v, _ => v = .pointer (some ⟨q.p, 0, none⟩)
  | 6, v, _ => v = q.vn
  | 7, v, _ => v = .agg q.mc.toArray
  | 8, v, w => RdS w 52 7 v 1 q.mc
  | 9, v, w => NX 52 7 q.vn q.W (q.n + 1) (q.cn ++ q.mc) v w
  | 10, v, _ => v = pv q.p
  | 11, v, _ => v = pv q.p
  | 12, v, _ => v = .pointer (some ⟨q.p, 1, none⟩)
  | 13, v, _ => v = q.vu
  | 14, v, w => RdS w 3 1 v 1 [mOne]
  | 15, v, w => NX 3 1 q.vu q.W (q.n + 1) (q.cu ++ [mOne]) v w
  | 16, v, _ => v = pv q.p
  | 17, v, _ => v = pv q.p
  | 18, v, _ => v = .pointer (some ⟨q.p, 2, none⟩)
  | 19, v, _ => v = q.vr
  | 20, v, w => RdS w 22 1 v 1 [nV]
  | 21, v, w => NX 22 1 q.vr q.W (q.n + 1) (q.cr ++ [nV]) v w
  | 22, v, _ => v = pv q.p
  | 23, v, _ => v = .pointer (some ⟨q.p, 0, none⟩)
  | 25, v, _ => v = pv q.p
  | 26, v, _ => v = .pointer (some ⟨q.p, 1, none⟩)
  | 28, v, _ => v = pv q.p
  | 29, v, _ => v = .pointer (some ⟨q.p, 2, none⟩)
  | _, _, _ => True
def killL : Nat → Nat
  | 8 => 9
  | 14 => 15
  | 20 => 21
  | _ => 31
section
variable {q : LayA} {w w' : World} {R : Nat → Prop} {τ : Nat}
theorem NX.no {t sz W m : Nat} {v0 v : Value} {cs : List Value} (h : NX t sz v0 W m cs v w) (hc : Chg w w' No) : NX t sz v0 W m cs v w' := ⟨h.1.no hc, h.2⟩
theorem NX.typ {t sz W m : Nat} {v0 v : Value} {cs : List Value} (h : NX t sz v0 W m cs v w) (hc : Chg w w' R) (hR : OneT w τ R) (ht : t ≠ τ) : NX t sz v0 W m cs v w' := ⟨h.1.typ hc hR ht, h.2⟩
theorem GL.no (hc : Chg w w' No) : ∀ j v, GL q j v w → GL q j v w'
  | 0, v, h => h
  | 1, v, h => h
  | 2, v, h => h
  | 3, v, h => h
  | 4, v, h => h
  | 5, v, h => h
  | 6, v, h => h
  | 7, v, h => h
  | 8, v, h => RdS.no h hc
  | 9, v, h => NX.no h hc
  | 10, v, h => h
  | 11, v, h => h
  | 12, v, h => h
  | 13, v, h => h
  | 14, v, h => RdS.no h hc
  | 15, v, h => NX.no h hc
  | 16, v, h => h
  | 17, v, h => h
  | 18, v, h => h
  | 19, v, h => h
  | 20, v, h => RdS.no h hc
  | 21, v, h => NX.no h hc
  | 22, v, h => h
  | 23, v, h => h
  | 24, v, h => h
  | 25, v, h => h
  | 26, v, h => h
  | 27, v, h => h
  | 28, v, h => h
  | 29, v, h => h
  | 30, v, h => h
  | _ + 31, _, _ => trivial
theorem GL.typ (hc : Chg w w' R) (hR : OneT w τ R) : ∀ j v, (j = 8 ∨ j = 9 → 52 ≠ τ) → (j = 14 ∨ j = 15 → 3 ≠ τ) → (j = 20 ∨ j = 21 → 22 ≠ τ) → GL q j v w → GL q j v w'
  | 0, v, _, _, _, h => h
  | 1, v, _, _, _, h => h
  | 2, v, _, _, _, h => h
  | 3, v, _, _, _, h => h
  | 4, v, _, _, _, h => h
  | 5, v, _, _, _, h => h
  | 6, v, _, _, _, h => h
  | 7, v, _, _, _, h => h
  | 8, v, h1, h2, h3, h => RdS.typ h hc hR (h1 (.inl rfl))
  | 9, v, h1, h2, h3, h => NX.typ h hc hR (h1 (.inr rfl))
  | 10, v, _, _, _, h => h
  | 11, v, _, _, _, h => h
  | 12, v, _, _, _, h => h
  | 13, v, _, _, _, h => h
  | 14, v, h1, h2, h3, h => RdS.typ h hc hR (h2 (.inl rfl))
  | 15, v, h1, h2, h3, h => NX.typ h hc hR (h2 (.inr rfl))
  | 16, v, _, _, _, h => h
  | 17, v, _, _, _, h => h
  | 18, v, _, _, _, h => h
  | 19, v, _, _, _, h => h
  | 20, v, h1, h2, h3, h => RdS.typ h hc hR (h3 (.inl rfl))
  | 21, v, h1, h2, h3, h => NX.typ h hc hR (h3 (.inr rfl))
  | 22, v, _, _, _, h => h
  | 23, v, _, _, _, h => h
  | 24, v, _, _, _, h => h
  | 25, v, _, _, _, h => h
  | 26, v, _, _, _, h => h
  | 27, v, _, _, _, h => h
  | 28, v, _, _, _, h => h
  | 29, v, _, _, _, h => h
  | 30, v, _, _, _, h => h
  | _ + 31, _, _, _, _, _ => trivial
def SL (q : LayA) (k : Nat) : Prop := k = q.p ∨ q.vn.ownBlock = some k ∨ q.vu.ownBlock = some k ∨ q.vr.ownBlock = some k
structure TL (q : LayA) (w0 : World) (b : Array Bool) (w : World) : Prop where
  chg : Chg w0 w (SL q)
  nb : Blk w q.nb 52 q.mc
  o9 : b.getD 9 false = false → Own w 52 7 q.vn q.n q.cn
  o15 : b.getD 15 false = false → Own w 3 1 q.vu q.n q.cu
  o21 : b.getD 21 false = false → Own w 22 1 q.vr q.n q.cr
  b0 : b.getD 24 false = false → Blk w q.p 123 [q.vn, q.vu, q.vr]
  b1 : b.getD 24 false = true → b.getD 27 false = false → ∃ v, Blk w q.p 123 [v, q.vu, q.vr] ∧ NX 52 7 q.vn q.W (q.n + 1) (q.cn ++ q.mc) v w
  b2 : b.getD 27 false = true → b.getD 30 false = false → ∃ v u, Blk w q.p 123 [v, u, q.vr] ∧ NX 52 7 q.vn q.W (q.n + 1) (q.cn ++ q.mc) v w ∧ NX 3 1 q.vu q.W (q.n + 1) (q.cu ++ [mOne]) u w
  b3 : b.getD 30 false = true → ∃ v u r, Blk w q.p 123 [v, u, r] ∧ NX 52 7 q.vn q.W (q.n + 1) (q.cn ++ q.mc) v w ∧ NX 3 1 q.vu q.W (q.n + 1) (q.cu ++ [mOne]) u w ∧ NX 22 1 q.vr q.W (q.n + 1) (q.cr ++ [nV]) r w
variable {w0 : World} {b : Array Bool}
theorem TL.no (h : TL q w0 b w) (hc : Chg w w' No) {i : Nat} (h1 : i ≠ 9) (h2 : i ≠ 15) (h3 : i ≠ 21) (h4 : i ≠ 24) (h5 : i ≠ 27) (h6 : i ≠ 30) : TL q w0 (b.setIfInBounds i true) w' :=
  ⟨h.chg.no hc, h.nb.no hc, fun hb => (h.o9 (by rwa [gd_ne h1] at hb)).no hc, fun hb => (h.o15 (by rwa [gd_ne h2] at hb)).no hc, fun hb => (h.o21 (by rwa [gd_ne h3] at hb)).no hc, fun hb => (h.b0 (by rwa [gd_ne h4] at hb)).no hc,
    fun ha hb => by
      obtain ⟨v, g1, g2⟩ := h.b1 (by rwa [gd_ne h4] at ha) (by rwa [gd_ne h5] at hb)
      exact ⟨v, g1.no hc, g2.no hc⟩,
    fun ha hb => by
      obtain ⟨v, u, g1, g2, g3⟩ := h.b2 (by rwa [gd_ne h5] at ha) (by rwa [gd_ne h6] at hb)
      exact ⟨v, u, g1.no hc, g2.no hc, g3.no hc⟩,
    fun hb => by
      obtain ⟨v, u, r, g1, g2, g3, g4⟩ := h.b3 (by rwa [gd_ne h6] at hb)
      exact ⟨v, u, r, g1.no hc, g2.no hc, g3.no hc, g4.no hc⟩⟩
/-- one of the three rows has grown -/
theorem TL.grow (h : TL q w0 b w) (hc : Chg w w' R) (hR : OneT w τ R) (hsub : ∀ k, R k → SL q k) (hnb : ¬ R q.nb) {i : Nat} (hi : i < b.size) (h24 : b.getD 24 false = false) (h27 : b.getD 27 false = false) (h30 : b.getD 30 false = false) (h4 : i ≠ 24) (h5 : i ≠ 27) (h6 : i ≠ 30)
    (k9 : i = 9 ∨ (i ≠ 9 ∧ 52 ≠ τ)) (k15 : i = 15 ∨ (i ≠ 15 ∧ 3 ≠ τ)) (k21 : i = 21 ∨ (i ≠ 21 ∧ 22 ≠ τ)) (k63 : 123 ≠ τ) : TL q w0 (b.setIfInBounds i true) w' := by
  refine ⟨h.chg.trans hc (fun k _ hk => hsub k hk), h.nb.chg hc hnb, fun hb => ?_, fun hb => ?_, fun hb => ?_, fun hb => (h.b0 h24).typ hc hR k63, fun ha => ?_, fun ha => ?_, fun ha => ?_⟩
  · rcases k9 with rfl | ⟨k, k'⟩
    · rw [gd_eq hi] at hb; cases hb
    · rw [gd_ne k] at hb; exact (h.o9 hb).typ hc hR k'
  · rcases k15 with rfl | ⟨k, k'⟩
    · rw [gd_eq hi] at hb; cases hb
    · rw [gd_ne k] at hb; exact (h.o15 hb).typ hc hR k'
  · rcases k21 with rfl | ⟨k, k'⟩
    · rw [gd_eq hi] at hb; cases hb
    · rw [gd_ne k] at hb; exact (h.o21 hb).typ hc hR k'
  · rw [gd_ne h4, h24] at ha; cases ha
  · rw [gd_ne h5, h27] at ha; cases ha
  · rw [gd_ne h6, h30] at ha; cases ha
end
set_option maxRecDepth 100000 in
set_option maxHeartbeats 16000000 in
theorem rLay_calls {w : World} {p : Nat} {vn vu vr va : Value} {ms : List MN} {ks : List Value} {N : List ND} (h : IsR w p vn vu vr ms ks N) (hl : N.length ≤ 100000) (x : ND) (hu : x.up = -1) (hk : x.kids = []) (hA : AttrS w va x.attrs) :
    Calls Try.prog 93 [.pointer (some ⟨p, 0, none⟩), .agg #[.int .i64 x.kind, .int .i64 x.space, .string x.name, va, .string (bs x.text), .int .i64 0, .slice none 0 0]].toArray w fun e w' => e = .returned (.int .i64 N.length) ∧ ∃ vn' vu' vr' ms' ks', IsR w' p vn' vu' vr' ms' ks' (N ++ [x]) ∧ WrR w w' p vn vu vr ks vn' vu' vr' ks' := by
  obtain ⟨Aa, ca, rfl, _⟩ := hA.form
  have hvn := h.formN
  have hvu := h.formU
  have hvr := h.formR
  refine calls_zc (n := 39) (f := 93) (fn := Try.f93) Try.func93 rfl rfl (by simp) ?_
  refine zc_seq ?_
  refine zc_region ?_
  refine z_box (by first | exact want_none | exact want_L rfl) (by decide) rfl (fun w1 nb hN1 => ?_)
  have hnb : Blk w1 nb 52 [.int .i64 x.kind, .int .i64 x.space, .string x.name, .slice Aa x.attrs.length ca, .string (bs x.text), .int .i64 0, .slice none 0 0] := hN1.blk
  have h1 := h.no hN1.chg
  have hnbge : w.heap.size ≤ nb := hN1.ge (Chg.refl _ No)
  have hnn : ∀ k, fR p vn vu vr ks k → k ≠ nb := fun k hk he => by have := h.lt k hk; omega
  obtain ⟨q, hq⟩ : ∃ q : LayA, q = ⟨p, nb, w1.heap.size, N.length, vn, vu, vr, encN ms, upC N, ks, [.int .i64 x.kind, .int .i64 x.space, .string x.name, .slice Aa x.attrs.length ca, .string (bs x.text), .int .i64 0, .slice none 0 0]⟩ := ⟨_, rfl⟩
  have hT0 : ∀ w', Chg w1 w' No → TL q w1 (Array.replicate 31 false) w' := fun w' hc => by
    subst hq
    exact ⟨hc.mono (fun _ _ h => h.elim), hnb.no hc, fun _ => h1.own.no hc, fun _ => h1.ups.no hc, fun _ => h1.rws.no hc, fun _ => h1.blk.no hc, (fun ha => by rw [gd_rep] at ha; cases ha), (fun ha => by rw [gd_rep] at ha; cases ha), (fun ha => by rw [gd_rep] at ha; cases ha)⟩
  have hqp : q.p = p := by rw [hq]
  have hqW : q.W = w1.heap.size := by rw [hq]
  have hqn : q.n = N.length := by rw [hq]
  have hqvn : q.vn = vn := by rw [hq]
  have hqvu : q.vu = vu := by rw [hq]
  have hqvr : q.vr = vr := by rw [hq]
  have hqnb : q.nb = nb := by rw [hq]
  have hqmc : q.mc = [.int .i64 x.kind, .int .i64 x.space, .string x.name, .slice Aa x.attrs.length ca, .string (bs x.text), .int .i64 0, .slice none 0 0] := by rw [hq]
  have hmcl : q.mc.length = 7 := by rw [hqmc]; rfl
  have hmc1 : ∀ u ∈ q.mc, u.oneCell' = true := by rw [hqmc]; simp [Value.oneCell']
  refine zl_pureL rfl ?_
  refine zl_nil ?_
  refine zk_seq ?_
  refine zc_seq ?_
  refine zc_drawS (GL q) killL (TL q w1) [(0, .pointer (some ⟨p, 0, none⟩)), (3, .pointer (some ⟨nb, 0, none⟩))] (by rfl) (by kernel_rfl) (by kernel_rfl) ⟨rfl, rfl, trivial⟩ (fun w' hc _ => hT0 w' hc) ?_ ?_
  · intro i' hi' b a y hbsz hbi hcl hwt hL
    obtain ⟨hok', hTL, hd⟩ := hL
    have hb31 : b.size = 31 := hbsz
    have hi31 : i' < 31 := hi'
    have g : ∀ j, waits _ i' j = true → (killL j = i' ∨ 31 ≤ killL j) → ∀ dj, dstOf _ j = some dj → ∃ v, a.tmps[dj]? = some v ∧ GL q j v y := fun j hw hk dj hdj => by
      obtain ⟨v, h1, h2⟩ := hd j hw dj hdj
      exact ⟨v, h1, h2 (fun hh => hh hk)⟩
    have cl : ∀ k, waits _ k i' = true → b.getD k false = false := fun k hw => by
      rcases hk' : b.getD k false with _ | _
      · rfl
      · have := hcl k i' hk' hw; rw [hbi] at this; cases this
    have hsize : w1.heap.size ≤ y.heap.size := hTL.chg.size
    match i', hi31 with
    | 0, _ =>
      exact wo_pure rfl hok' rfl ⟨gS (d0 := 5) rfl (show _ = pv q.p by rw [hqp]; rfl), gT (d0 := 5) rfl, hTL.no (Chg.refl _ No) (by decide) (by decide) (by decide) (by decide) (by decide) (by decide), fun _ _ _ _ h => h⟩
    | 1, _ =>
      exact wo_pure rfl hok' rfl ⟨gS (d0 := 6) rfl (show _ = pv q.p by rw [hqp]; rfl), gT (d0 := 6) rfl, hTL.no (Chg.refl _ No) (by decide) (by decide) (by decide) (by decide) (by decide) (by decide), fun _ _ _ _ h => h⟩
    | 2, _ =>
      exact wo_pure rfl hok' rfl ⟨gS (d0 := 7) rfl (show _ = pv q.p by rw [hqp]; rfl), gT (d0 := 7) rfl, hTL.no (Chg.refl _ No) (by decide) (by decide) (by decide) (by decide) (by decide) (by decide), fun _ _ _ _ h => h⟩
    | 3, _ =>
      exact wo_pure rfl hok' rfl ⟨gS (d0 := 8) rfl (show _ = pv q.p by rw [hqp]; rfl), gT (d0 := 8) rfl, hTL.no (Chg.refl _ No) (by decide) (by decide) (by decide) (by decide) (by decide) (by decide), fun _ _ _ _ h => h⟩
    | 4, _ =>
      obtain ⟨v, hv, e1⟩ := g 3 (by kernel_rfl) (by decide) _ rfl
      have e2 : v = .pointer (some ⟨p, 0, none⟩) := by rw [show v = pv q.p from e1, hqp]; rfl
      subst e2
      exact wo_pure rfl (hok'.cons hv) rfl ⟨gS (d0 := 9) rfl (show _ = pv q.p by rw [hqp]; rfl), gT (d0 := 9) rfl, hTL.no (Chg.refl _ No) (by decide) (by decide) (by decide) (by decide) (by decide) (by decide), fun _ _ _ _ h => h⟩
    | 5, _ =>
      obtain ⟨v, hv, e1⟩ := g 4 (by kernel_rfl) (by decide) _ rfl
      have e2 : v = .pointer (some ⟨p, 0, none⟩) := by rw [show v = pv q.p from e1, hqp]; rfl
      subst e2
      exact wo_run rfl (by first | exact want_none | exact want_L rfl) rfl (hok'.cons hv) (r_fa rfl) ⟨gS (d0 := 10) rfl (show _ = Value.pointer (some ⟨q.p, 0, none⟩) by rw [hqp]), gT (d0 := 10) rfl, hTL.no (Chg.refl _ No) (by decide) (by decide) (by decide) (by decide) (by decide) (by decide), fun _ _ _ _ h => h⟩
    | 6, _ =>
      obtain ⟨v, hv, e1⟩ := g 5 (by kernel_rfl) (by decide) _ rfl
      have e2 : v = .pointer (some ⟨p, 0, none⟩) := by rw [show v = Value.pointer (some ⟨q.p, 0, none⟩) from e1, hqp]
      subst e2
      have hB := hTL.b0 (cl 24 (by kernel_rfl))
      rw [hqp] at hB
      exact wo_run rfl (by first | exact want_none | exact want_L rfl) rfl (hok'.cons hv) (r_loadB rfl hB (by rfl)) ⟨gS (d0 := 11) rfl (show _ = q.vn from rfl), gT (d0 := 11) rfl, hTL.no (Chg.refl _ No) (by decide) (by decide) (by decide) (by decide) (by decide) (by decide), fun _ _ _ _ h => h⟩
    | 7, _ =>
      have hB := hTL.nb
      rw [hqnb] at hB
      exact wo_run rfl (by first | exact want_none | exact want_L rfl) rfl hok' (r_loadAB rfl hB hmcl) ⟨gS (d0 := 12) rfl (show _ = Value.agg q.mc.toArray from rfl), gT (d0 := 12) rfl, hTL.no (Chg.refl _ No) (by decide) (by decide) (by decide) (by decide) (by decide) (by decide), fun _ _ _ _ h => h⟩
    | 8, _ =>
      obtain ⟨v, hv, e1⟩ := g 7 (by kernel_rfl) (by decide) _ rfl
      have e2 : v = .agg q.mc.toArray := e1
      subst e2
      have hN := New.mk' y 52 q.mc
      exact wo_run rfl (by first | exact want_none | exact want_L rfl) rfl (hok'.cons hv) (run_bs1 rfl (by rfl) (by simp [Value.cells, hmcl]) (by decide) (by decide)) ⟨gS (d0 := 13) rfl (show RdS _ 52 7 _ 1 q.mc from RdS.new (New.mk' y 52 q.mc) (by rw [hmcl]) hmc1), gT (d0 := 13) rfl, hTL.no hN.chg (by decide) (by decide) (by decide) (by decide) (by decide) (by decide), fun j u _ _ h => GL.no hN.chg j u h⟩
    | 9, _ =>
      obtain ⟨v1, hv1, e1⟩ := g 6 (by kernel_rfl) (by decide) _ rfl
      obtain ⟨v2, hv2, e2⟩ := g 8 (by kernel_rfl) (by decide) _ rfl
      have e1 : v1 = q.vn := e1
      subst e1
      have hO := hTL.o9 hbi
      have hR : OneT y 52 (fun k => q.vn.ownBlock = some k) := fun k hk => hO.blk hk
      refine wo_append (by rfl) (by decide) rfl (by first | exact want_none | exact want_L rfl) ((hok'.cons hv1).cons hv2) rfl rfl hO e2 (by omega) (by omega) (fun v' y' hO' hC' hr' => ?_)
      exact ⟨gS (d0 := 14) rfl (show NX _ _ _ _ _ _ _ _ from ⟨hO', hr'.imp id (fun ⟨k, h3, h4⟩ => ⟨k, h3, by omega⟩)⟩), gT (d0 := 14) rfl, hTL.grow hC' hR (fun k hk => .inr (.inl hk)) (fun he => hnn nb (.inr (.inl (by rw [← hqvn, he, hqnb]))) rfl) (by omega) (cl 24 (by kernel_rfl)) (cl 27 (by kernel_rfl)) (cl 30 (by kernel_rfl)) (by decide) (by decide) (by decide) (.inl rfl) (.inr ⟨by decide, by decide⟩) (.inr ⟨by decide, by decide⟩) (by decide), fun j u hj hkj h => GL.typ hC' hR j u (by rintro (rfl | rfl); exact absurd rfl hkj; exact absurd rfl hj) (by intro _; decide) (by intro _; decide) h⟩
    | 10, _ =>
      exact wo_pure rfl hok' rfl ⟨gS (d0 := 15) rfl (show _ = pv q.p by rw [hqp]; rfl), gT (d0 := 15) rfl, hTL.no (Chg.refl _ No) (by decide) (by decide) (by decide) (by decide) (by decide) (by decide), fun _ _ _ _ h => h⟩
    | 11, _ =>
      obtain ⟨v, hv, e1⟩ := g 10 (by kernel_rfl) (by decide) _ rfl
      have e2 : v = .pointer (some ⟨p, 0, none⟩) := by rw [show v = pv q.p from e1, hqp]; rfl
      subst e2
      exact wo_pure rfl (hok'.cons hv) rfl ⟨gS (d0 := 16) rfl (show _ = pv q.p by rw [hqp]; rfl), gT (d0 := 16) rfl, hTL.no (Chg.refl _ No) (by decide) (by decide) (by decide) (by decide) (by decide) (by decide), fun _ _ _ _ h => h⟩
    | 12, _ =>
      obtain ⟨v, hv, e1⟩ := g 11 (by kernel_rfl) (by decide) _ rfl
      have e2 : v = .pointer (some ⟨p, 0, none⟩) := by rw [show v = pv q.p from e1, hqp]; rfl
      subst e2
      exact wo_run rfl (by first | exact want_none | exact want_L rfl) rfl (hok'.cons hv) (r_fa rfl) ⟨gS (d0 := 17) rfl (show _ = Value.pointer (some ⟨q.p, 1, none⟩) by rw [hqp]), gT (d0 := 17) rfl, hTL.no (Chg.refl _ No) (by decide) (by decide) (by decide) (by decide) (by decide) (by decide), fun _ _ _ _ h => h⟩
    | 13, _ =>
      obtain ⟨v, hv, e1⟩ := g 12 (by kernel_rfl) (by decide) _ rfl
      have e2 : v = .pointer (some ⟨p, 1, none⟩) := by rw [show v = Value.pointer (some ⟨q.p, 1, none⟩) from e1, hqp]
      subst e2
      have hB := hTL.b0 (cl 24 (by kernel_rfl))
      rw [hqp] at hB
      exact wo_run rfl (by first | exact want_none | exact want_L rfl) rfl (hok'.cons hv) (r_loadB rfl hB (by rfl)) ⟨gS (d0 := 18) rfl (show _ = q.vu from rfl), gT (d0 := 18) rfl, hTL.no (Chg.refl _ No) (by decide) (by decide) (by decide) (by decide) (by decide) (by decide), fun _ _ _ _ h => h⟩
    | 14, _ =>
      have hN := New.mk' y 3 [mOne]
      exact wo_run rfl (by first | exact want_none | exact want_L rfl) rfl hok' (run_bs1 rfl (by rfl) (by rfl) (by decide) (by decide)) ⟨gS (d0 := 19) rfl (show RdS _ 3 1 _ 1 [mOne] from RdS.new (New.mk' y 3 [mOne]) rfl (by simp [Value.oneCell'])), gT (d0 := 19) rfl, hTL.no hN.chg (by decide) (by decide) (by decide) (by decide) (by decide) (by decide), fun j u _ _ h => GL.no hN.chg j u h⟩
    | 15, _ =>
      obtain ⟨v1, hv1, e1⟩ := g 13 (by kernel_rfl) (by decide) _ rfl
      obtain ⟨v2, hv2, e2⟩ := g 14 (by kernel_rfl) (by decide) _ rfl
      have e1 : v1 = q.vu := e1
      subst e1
      have hO := hTL.o15 hbi
      have hR : OneT y 3 (fun k => q.vu.ownBlock = some k) := fun k hk => hO.blk hk
      refine wo_append (by rfl) (by decide) rfl (by first | exact want_none | exact want_L rfl) ((hok'.cons hv1).cons hv2) rfl rfl hO e2 (by omega) (by omega) (fun v' y' hO' hC' hr' => ?_)
      exact ⟨gS (d0 := 20) rfl (show NX _ _ _ _ _ _ _ _ from ⟨hO', hr'.imp id (fun ⟨k, h3, h4⟩ => ⟨k, h3, by omega⟩)⟩), gT (d0 := 20) rfl, hTL.grow hC' hR (fun k hk => .inr (.inr (.inl hk))) (fun he => hnn nb (.inr (.inr (.inl (by rw [← hqvu, he, hqnb])))) rfl) (by omega) (cl 24 (by kernel_rfl)) (cl 27 (by kernel_rfl)) (cl 30 (by kernel_rfl)) (by decide) (by decide) (by decide) (.inr ⟨by decide, by decide⟩) (.inl rfl) (.inr ⟨by decide, by decide⟩) (by decide), fun j u hj hkj h => GL.typ hC' hR j u (by intro _; decide) (by rintro (rfl | rfl); exact absurd rfl hkj; exact absurd rfl hj) (by intro _; decide) h⟩
    | 16, _ =>
      exact wo_pure rfl hok' rfl ⟨gS (d0 := 21) rfl (show _ = pv q.p by rw [hqp]; rfl), gT (d0 := 21) rfl, hTL.no (Chg.refl _ No) (by decide) (by decide) (by decide) (by decide) (by decide) (by decide), fun _ _ _ _ h => h⟩
    | 17, _ =>
      obtain ⟨v, hv, e1⟩ := g 16 (by kernel_rfl) (by decide) _ rfl
      have e2 : v = .pointer (some ⟨p, 0, none⟩) := by rw [show v = pv q.p from e1, hqp]; rfl
      subst e2
      exact wo_pure rfl (hok'.cons hv) rfl ⟨gS (d0 := 22) rfl (show _ = pv q.p by rw [hqp]; rfl), gT (d0 := 22) rfl, hTL.no (Chg.refl _ No) (by decide) (by decide) (by decide) (by decide) (by decide) (by decide), fun _ _ _ _ h => h⟩
    | 18, _ =>
      obtain ⟨v, hv, e1⟩ := g 17 (by kernel_rfl) (by decide) _ rfl
      have e2 : v = .pointer (some ⟨p, 0, none⟩) := by rw [show v = pv q.p from e1, hqp]; rfl
      subst e2
      exact wo_run rfl (by first | exact want_none | exact want_L rfl) rfl (hok'.cons hv) (r_fa rfl) ⟨gS (d0 := 23) rfl (show _ = Value.pointer (some ⟨q.p, 2, none⟩) by rw [hqp]), gT (d0 := 23) rfl, hTL.no (Chg.refl _ No) (by decide) (by decide) (by decide) (by decide) (by decide) (by decide), fun _ _ _ _ h => h⟩
    | 19, _ =>
      obtain ⟨v, hv, e1⟩ := g 18 (by kernel_rfl) (by decide) _ rfl
      have e2 : v = .pointer (some ⟨p, 2, none⟩) := by rw [show v = Value.pointer (some ⟨q.p, 2, none⟩) from e1, hqp]
      subst e2
      have hB := hTL.b0 (cl 24 (by kernel_rfl))
      rw [hqp] at hB
      exact wo_run rfl (by first | exact want_none | exact want_L rfl) rfl (hok'.cons hv) (r_loadB rfl hB (by rfl)) ⟨gS (d0 := 24) rfl (show _ = q.vr from rfl), gT (d0 := 24) rfl, hTL.no (Chg.refl _ No) (by decide) (by decide) (by decide) (by decide) (by decide) (by decide), fun _ _ _ _ h => h⟩
    | 20, _ =>
      have hN := New.mk' y 22 [nV]
      exact wo_run rfl (by first | exact want_none | exact want_L rfl) rfl hok' (run_bs1 rfl (by rfl) (by rfl) (by decide) (by decide)) ⟨gS (d0 := 25) rfl (show RdS _ 22 1 _ 1 [nV] from RdS.new (New.mk' y 22 [nV]) rfl (by simp [Value.oneCell'])), gT (d0 := 25) rfl, hTL.no hN.chg (by decide) (by decide) (by decide) (by decide) (by decide) (by decide), fun j u _ _ h => GL.no hN.chg j u h⟩
    | 21, _ =>
      obtain ⟨v1, hv1, e1⟩ := g 19 (by kernel_rfl) (by decide) _ rfl
      obtain ⟨v2, hv2, e2⟩ := g 20 (by kernel_rfl) (by decide) _ rfl
      have e1 : v1 = q.vr := e1
      subst e1
      have hO := hTL.o21 hbi
      have hR : OneT y 22 (fun k => q.vr.ownBlock = some k) := fun k hk => hO.blk hk
      refine wo_append (by rfl) (by decide) rfl (by first | exact want_none | exact want_L rfl) ((hok'.cons hv1).cons hv2) rfl rfl hO e2 (by omega) (by omega) (fun v' y' hO' hC' hr' => ?_)
      exact ⟨gS (d0 := 26) rfl (show NX _ _ _ _ _ _ _ _ from ⟨hO', hr'.imp id (fun ⟨k, h3, h4⟩ => ⟨k, h3, by omega⟩)⟩), gT (d0 := 26) rfl, hTL.grow hC' hR (fun k hk => .inr (.inr (.inr hk))) (fun he => hnn nb (.inr (.inr (.inr (.inl (by rw [← hqvr, he, hqnb]))))) rfl) (by omega) (cl 24 (by kernel_rfl)) (cl 27 (by kernel_rfl)) (cl 30 (by kernel_rfl)) (by decide) (by decide) (by decide) (.inr ⟨by decide, by decide⟩) (.inr ⟨by decide, by decide⟩) (.inl rfl) (by decide), fun j u hj hkj h => GL.typ hC' hR j u (by intro _; decide) (by intro _; decide) (by rintro (rfl | rfl); exact absurd rfl hkj; exact absurd rfl hj) h⟩
    | 22, _ =>
      obtain ⟨v, hv, e1⟩ := g 0 (by kernel_rfl) (by decide) _ rfl
      have e2 : v = .pointer (some ⟨p, 0, none⟩) := by rw [show v = pv q.p from e1, hqp]; rfl
      subst e2
      exact wo_pure rfl (hok'.cons hv) rfl ⟨gS (d0 := 27) rfl (show _ = pv q.p by rw [hqp]; rfl), gT (d0 := 27) rfl, hTL.no (Chg.refl _ No) (by decide) (by decide) (by decide) (by decide) (by decide) (by decide), fun _ _ _ _ h => h⟩
    | 23, _ =>
      obtain ⟨v, hv, e1⟩ := g 22 (by kernel_rfl) (by decide) _ rfl
      have e2 : v = .pointer (some ⟨p, 0, none⟩) := by rw [show v = pv q.p from e1, hqp]; rfl
      subst e2
      exact wo_run rfl (by first | exact want_none | exact want_L rfl) rfl (hok'.cons hv) (r_fa rfl) ⟨gS (d0 := 28) rfl (show _ = Value.pointer (some ⟨q.p, 0, none⟩) by rw [hqp]), gT (d0 := 28) rfl, hTL.no (Chg.refl _ No) (by decide) (by decide) (by decide) (by decide) (by decide) (by decide), fun _ _ _ _ h => h⟩
    | 24, _ =>
      obtain ⟨v, hv, e1⟩ := g 23 (by kernel_rfl) (by decide) _ rfl
      have e2 : v = .pointer (some ⟨p, 0, none⟩) := by rw [show v = Value.pointer (some ⟨q.p, 0, none⟩) from e1, hqp]
      subst e2
      obtain ⟨u, hu', e3⟩ := g 9 (by kernel_rfl) (by decide) _ rfl
      have e3 : NX 52 7 q.vn q.W (q.n + 1) (q.cn ++ q.mc) u y := e3
      obtain ⟨Au, cu', hus, _⟩ := e3.1.rd.form
      subst hus
      have hB := hTL.b0 hbi
      rw [hqp] at hB
      refine wo_store rfl (by first | exact want_none | exact want_L rfl) ((hok'.cons hv).cons hu') rfl rfl (by rfl) hB (by simp [Value.cells]) (by simp [Value.cells, Value.oneCell']) (fun y' hU => ?_)
      have hB' : Blk y' q.p 123 [.slice Au (q.n + 1) cu', q.vu, q.vr] := by rw [hqp]; exact hU.blk
      have hR : OneT y 123 (fun k => k = p) := fun k hk => ⟨_, hk ▸ hB⟩
      have hC' : Chg y y' (fun k => k = p) := hU.chg
      exact ⟨gN rfl, fun _ => rfl, ⟨hTL.chg.trans hC' (fun k _ hk => .inl (by rw [hqp]; exact hk)), hTL.nb.typ hC' hR (by decide), (fun hb => (hTL.o9 (by rwa [gd_ne (by decide)] at hb)).typ hC' hR (by decide)), (fun hb => (hTL.o15 (by rwa [gd_ne (by decide)] at hb)).typ hC' hR (by decide)), (fun hb => (hTL.o21 (by rwa [gd_ne (by decide)] at hb)).typ hC' hR (by decide)), (fun hb => by rw [gd_eq (by omega)] at hb; cases hb), (fun _ _ => ⟨_, hB', e3.typ hC' hR (by decide)⟩), (fun ha => by rw [gd_ne (by decide), cl 27 (by kernel_rfl)] at ha; cases ha), (fun ha => by rw [gd_ne (by decide), cl 30 (by kernel_rfl)] at ha; cases ha)⟩, fun j u hj hkj h => GL.typ hC' hR j u (fun _ => by decide) (fun _ => by decide) (fun _ => by decide) h⟩
    | 25, _ =>
      obtain ⟨v, hv, e1⟩ := g 1 (by kernel_rfl) (by decide) _ rfl
      have e2 : v = .pointer (some ⟨p, 0, none⟩) := by rw [show v = pv q.p from e1, hqp]; rfl
      subst e2
      exact wo_pure rfl (hok'.cons hv) rfl ⟨gS (d0 := 29) rfl (show _ = pv q.p by rw [hqp]; rfl), gT (d0 := 29) rfl, hTL.no (Chg.refl _ No) (by decide) (by decide) (by decide) (by decide) (by decide) (by decide), fun _ _ _ _ h => h⟩
    | 26, _ =>
      obtain ⟨v, hv, e1⟩ := g 25 (by kernel_rfl) (by decide) _ rfl
      have e2 : v = .pointer (some ⟨p, 0, none⟩) := by rw [show v = pv q.p from e1, hqp]; rfl
      subst e2
      exact wo_run rfl (by first | exact want_none | exact want_L rfl) rfl (hok'.cons hv) (r_fa rfl) ⟨gS (d0 := 30) rfl (show _ = Value.pointer (some ⟨q.p, 1, none⟩) by rw [hqp]), gT (d0 := 30) rfl, hTL.no (Chg.refl _ No) (by decide) (by decide) (by decide) (by decide) (by decide) (by decide), fun _ _ _ _ h => h⟩
    | 27, _ =>
      obtain ⟨v, hv, e1⟩ := g 26 (by kernel_rfl) (by decide) _ rfl
      have e2 : v = .pointer (some ⟨p, 1, none⟩) := by rw [show v = Value.pointer (some ⟨q.p, 1, none⟩) from e1, hqp]
      subst e2
      obtain ⟨u, hu', e3⟩ := g 15 (by kernel_rfl) (by decide) _ rfl
      have e3 : NX 3 1 q.vu q.W (q.n + 1) (q.cu ++ [mOne]) u y := e3
      obtain ⟨Au, cu', hus, _⟩ := e3.1.rd.form
      subst hus
      obtain ⟨x1, hB, n1⟩ := hTL.b1 (hwt 24 (by kernel_rfl)) hbi
      rw [hqp] at hB
      refine wo_store rfl (by first | exact want_none | exact want_L rfl) ((hok'.cons hv).cons hu') rfl rfl (by rfl) hB (by simp [Value.cells]) (by simp [Value.cells, Value.oneCell']) (fun y' hU => ?_)
      have hB' : Blk y' q.p 123 [x1, .slice Au (q.n + 1) cu', q.vr] := by rw [hqp]; exact hU.blk
      have hR : OneT y 123 (fun k => k = p) := fun k hk => ⟨_, hk ▸ hB⟩
      have hC' : Chg y y' (fun k => k = p) := hU.chg
      exact ⟨gN rfl, fun _ => rfl, ⟨hTL.chg.trans hC' (fun k _ hk => .inl (by rw [hqp]; exact hk)), hTL.nb.typ hC' hR (by decide), (fun hb => (hTL.o9 (by rwa [gd_ne (by decide)] at hb)).typ hC' hR (by decide)), (fun hb => (hTL.o15 (by rwa [gd_ne (by decide)] at hb)).typ hC' hR (by decide)), (fun hb => (hTL.o21 (by rwa [gd_ne (by decide)] at hb)).typ hC' hR (by decide)), (fun hb => by rw [gd_ne (by decide), hwt 24 (by kernel_rfl)] at hb; cases hb), (fun _ hb => by rw [gd_eq (by omega)] at hb; cases hb), (fun _ _ => ⟨_, _, hB', n1.typ hC' hR (by decide), e3.typ hC' hR (by decide)⟩), (fun ha => by rw [gd_ne (by decide), cl 30 (by kernel_rfl)] at ha; cases ha)⟩, fun j u hj hkj h => GL.typ hC' hR j u (fun _ => by decide) (fun _ => by decide) (fun _ => by decide) h⟩
    | 28, _ =>
      obtain ⟨v, hv, e1⟩ := g 2 (by kernel_rfl) (by decide) _ rfl
      have e2 : v = .pointer (some ⟨p, 0, none⟩) := by rw [show v = pv q.p from e1, hqp]; rfl
      subst e2
      exact wo_pure rfl (hok'.cons hv) rfl ⟨gS (d0 := 31) rfl (show _ = pv q.p by rw [hqp]; rfl), gT (d0 := 31) rfl, hTL.no (Chg.refl _ No) (by decide) (by decide) (by decide) (by decide) (by decide) (by decide), fun _ _ _ _ h => h⟩
    | 29, _ =>
      obtain ⟨v, hv, e1⟩ := g 28 (by kernel_rfl) (by decide) _ rfl
      have e2 : v = .pointer (some ⟨p, 0, none⟩) := by rw [show v = pv q.p from e1, hqp]; rfl
      subst e2
      exact wo_run rfl (by first | exact want_none | exact want_L rfl) rfl (hok'.cons hv) (r_fa rfl) ⟨gS (d0 := 32) rfl (show _ = Value.pointer (some ⟨q.p, 2, none⟩) by rw [hqp]), gT (d0 := 32) rfl, hTL.no (Chg.refl _ No) (by decide) (by decide) (by decide) (by decide) (by decide) (by decide), fun _ _ _ _ h => h⟩
    | 30, _ =>
      obtain ⟨v, hv, e1⟩ := g 29 (by kernel_rfl) (by decide) _ rfl
      have e2 : v = .pointer (some ⟨p, 2, none⟩) := by rw [show v = Value.pointer (some ⟨q.p, 2, none⟩) from e1, hqp]
      subst e2
      obtain ⟨u, hu', e3⟩ := g 21 (by kernel_rfl) (by decide) _ rfl
      have e3 : NX 22 1 q.vr q.W (q.n + 1) (q.cr ++ [nV]) u y := e3
      obtain ⟨Au, cu', hus, _⟩ := e3.1.rd.form
      subst hus
      obtain ⟨x1, x2, hB, n1, n2⟩ := hTL.b2 (hwt 27 (by kernel_rfl)) hbi
      rw [hqp] at hB
      refine wo_store rfl (by first | exact want_none | exact want_L rfl) ((hok'.cons hv).cons hu') rfl rfl (by rfl) hB (by simp [Value.cells]) (by simp [Value.cells, Value.oneCell']) (fun y' hU => ?_)
      have hB' : Blk y' q.p 123 [x1, x2, .slice Au (q.n + 1) cu'] := by rw [hqp]; exact hU.blk
      have hR : OneT y 123 (fun k => k = p) := fun k hk => ⟨_, hk ▸ hB⟩
      have hC' : Chg y y' (fun k => k = p) := hU.chg
      exact ⟨gN rfl, fun _ => rfl, ⟨hTL.chg.trans hC' (fun k _ hk => .inl (by rw [hqp]; exact hk)), hTL.nb.typ hC' hR (by decide), (fun hb => (hTL.o9 (by rwa [gd_ne (by decide)] at hb)).typ hC' hR (by decide)), (fun hb => (hTL.o15 (by rwa [gd_ne (by decide)] at hb)).typ hC' hR (by decide)), (fun hb => (hTL.o21 (by rwa [gd_ne (by decide)] at hb)).typ hC' hR (by decide)), (fun hb => by rw [gd_ne (by decide), hwt 24 (by kernel_rfl)] at hb; cases hb), (fun _ hb => by rw [gd_ne (by decide), hwt 27 (by kernel_rfl)] at hb; cases hb), (fun _ hb => by rw [gd_eq (by omega)] at hb; cases hb), (fun _ => ⟨_, _, _, hB', n1.typ hC' hR (by decide), n2.typ hC' hR (by decide), e3.typ hC' hR (by decide)⟩)⟩, fun j u hj hkj h => GL.typ hC' hR j u (fun _ => by decide) (fun _ => by decide) (fun _ => by decide) h⟩
    | k + 31, hk => omega
  · intro b a y hall hL
    obtain ⟨hok', hTL, _⟩ := hL
    obtain ⟨v', u', r', hB, n1, n2, n3⟩ := hTL.b3 (hall 30 (by decide))
    have hC := hTL.chg
    subst hq
    dsimp only [SL] at hB n1 n2 n3 hC
    refine np_zk (e := [(0, .pointer (some ⟨p, 0, none⟩)), (3, .pointer (some ⟨nb, 0, none⟩))]) ?_ hok'
    obtain ⟨An, cn, hv', hcn⟩ := n1.1.rd.form
    subst hv'
    refine zk_seq ?_
    refine zc_seq ?_
    refine zc_region ?_
    iterate 2 (refine zl_pureL rfl ?_)
    refine z_fa want_none (by decide) rfl ?_
    refine z_loadB want_none (by decide) rfl (by assumption) (by rfl) ?_
    refine z_len want_none (by decide) rfl ?_
    refine z_sub want_none (by decide) rfl rfl (by omega) (by omega) ?_
    refine zl_pureL rfl ?_
    refine zl_nil ?_
    refine zk_seq ?_
    refine zc_ret ?_
    have hS : ∀ k, SL ⟨p, nb, w1.heap.size, N.length, vn, vu, vr, encN ms, upC N, ks, [.int .i64 x.kind, .int .i64 x.space, .string x.name, .slice Aa x.attrs.length ca, .string (bs x.text), .int .i64 0, .slice none 0 0]⟩ k → fR p vn vu vr ks k := fun k hk => by
      rcases hk with hk | hk | hk | hk
      · exact .inl hk
      · exact .inr (.inl hk)
      · exact .inr (.inr (.inl hk))
      · exact .inr (.inr (.inr (.inl hk)))
    have h45 : ∀ b cells, Blk w1 b 89 cells → ¬ (b = p ∨ vn.ownBlock = some b ∨ vu.ownBlock = some b ∨ vr.ownBlock = some b) := fun b cells hb hk => h1.no45 b cells hb (hS b hk)
    have hsz1 := hN1.chg.size
    have hA' : AttrS y (.slice Aa x.attrs.length ca) x.attrs := RdS.chg (hA.no hN1.chg) hC h45
    refine zk_ret1 (.inr rfl) rfl rfl ⟨by congr 2; omega, _, u', r', ms ++ [⟨x.kind, x.space, x.name, .slice Aa x.attrs.length ca, bs x.text, 0, nV⟩], ks ++ [nV], ⟨hB, ?_, ?_, ?_, by simp [h.lm], by simp [h.lk], ?_, ?_⟩, ?_, ?_, ?_⟩
    · rw [List.length_append, encN_app]; exact n1.1
    · rw [List.length_append, upC_app]
      have : upC [x] = [mOne] := by simp [upC, hu]
      rw [this]; exact n2.1
    · rw [List.length_append]; exact n3.1
    · intro i hi
      rw [getD_snoc, getD_snoc, h.lm]
      by_cases hin : i = N.length
      · rw [if_pos hin, if_pos hin]
        exact ⟨⟨rfl, rfl, rfl, hA', rfl, rfl⟩, rfl⟩
      · rw [if_neg hin, if_neg hin]
        have hi' : i < N.length := by simp at hi; omega
        exact ⟨(h1.at_ i hi').1.chg' hC h45, (h1.at_ i hi').2⟩
    · intro i hi
      rw [getD_snoc, getD_snoc, h.lk]
      by_cases hin : i = N.length
      · rw [if_pos hin, if_pos hin, hk]
        exact ⟨Own.nil, fun k hk => by cases hk⟩
      · rw [if_neg hin, if_neg hin]
        have hi' : i < N.length := by simp at hi; omega
        obtain ⟨hK, hK2⟩ := h1.kid i hi'
        refine ⟨hK.chg hC (fun k hk hs => ?_), fun k hk he => ?_⟩
        · rcases hs with hs | hs | hs | hs
          · exact hK.ne hk h1.blk (by decide) hs
          · obtain ⟨cs, hb⟩ := h1.own.blk hs; exact hK.ne hk hb (by decide) rfl
          · exact hK2 k hk hs
          · obtain ⟨cs, hb⟩ := h1.rws.blk hs; exact hK.ne hk hb (by decide) rfl
        · rcases n2.2 with e1 | ⟨k', e1, e2⟩
          · rw [e1] at he; exact hK2 k hk he
          · rw [he] at e1; cases e1; have := hK.lt hk; omega
    · exact (hN1.chg.mono (fun _ _ h => h.elim)).trans hC (fun k _ hk => hS k hk)
    · rintro k (hk' | hk' | hk' | hk' | ⟨i, hi, hk'⟩)
      · exact .inl (.inl hk')
      · rcases n1.2 with e1 | ⟨k', e1, e2⟩
        · exact .inl (.inr (.inl (e1 ▸ hk')))
        · rw [hk'] at e1; cases e1; exact .inr (by omega)
      · rcases n2.2 with e1 | ⟨k', e1, e2⟩
        · exact .inl (.inr (.inr (.inl (e1 ▸ hk'))))
        · rw [hk'] at e1; cases e1; exact .inr (by omega)
      · rcases n3.2 with e1 | ⟨k', e1, e2⟩
        · exact .inl (.inr (.inr (.inr (.inl (e1 ▸ hk')))))
        · rw [hk'] at e1; cases e1; exact .inr (by omega)
      · rw [getD_snoc] at hk'
        by_cases hin : i = ks.length
        · rw [if_pos hin] at hk'; cases hk'
        · rw [if_neg hin] at hk'
          exact .inl (.inr (.inr (.inr (.inr ⟨i, by simp at hi; omega, hk'⟩))))
    · exact fun b cells hb => (hb.no hN1.chg).chg hC (h45 b cells (hb.no hN1.chg))
end Go.Proofs.Yteeibieaapiomaa.D
