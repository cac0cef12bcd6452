import Derived.Test.YteeibieaapiomaaSFos
import Derived.Lib.AppendZerosOnto
import Derived.Lib.Overlaps
/- slices.Insert: one entry. -/
namespace Go.Z
open Go
section
variable {P : Program} {n : Nat} {e : Env} {w : World} {Q : Exit → Act → World → Prop} {ops : Array Oper} {rest : List Oper}
variable {d : Tmp} {ty : TypeId} {pos : String} {aft : Array Edge} {g : Option (Nat × Bool)}
/-- zero values behind a row that has no room for them -/
theorem appendZ_run {s x : Operand} {t tn el : TypeId} {sz k m c kk b : Nat} {kx : Int} {z : Value} {xs : List Value} [hu : Und P t (.slice el)] [hn : Und P tn (.int .i64)] [hz : Inf P el sz k z] (hzs : z.cells.size = sz) (hsz : 0 < sz)
    (hs : ev e s = some (.slice (some ⟨b, 0, none⟩) m c)) (hx : ev e x = some (.int .i64 kx)) (hkx : kx = (kk : Int)) (hown : Own w el sz (.slice (some ⟨b, 0, none⟩) m c) m xs) (h0 : 0 < kk) (hg : c < m + kk) (h63 : m + kk ≤ maxLen) (hby : (m + kk) * k ≤ 140737488355328) :
    ∃ cap zc junk w', (∀ a, Ok n e a → (execOp a.eval (⟨some d, .call { callee := .builtin .append, args := #[s, x], argTypes := #[t, tn] }, ty, pos, aft, g⟩ : Oper)).run P w = .ok (.value (.slice (some ⟨w.heap.size, 0, none⟩) (m + kk) cap)) w') ∧
      m + kk ≤ cap ∧ cap ≤ maxLen ∧ Blk w' w.heap.size el (xs ++ zc ++ junk) ∧ zc.length = kk * sz ∧ (xs ++ zc ++ junk).length = cap * sz ∧ Chg w w' No ∧ w'.heap.size = w.heap.size + 1 := by
  subst hkx
  obtain ⟨i, hi1, hi2, hi3, hi4⟩ := hz.ex
  have hl := hown.len
  subst hi2
  have hsrc : ∀ j u, xs[j]? = some u → w.drew.cell? ((⟨b, 0, none⟩ : Addr).add j) = some u := fun j u hj => by
    have := hown.1.cells (g := b) rfl j u hj
    exact this
  have hold := run_firstCells_some (P := P) (w := w.drew) i.size m ⟨b, 0, none⟩ m c xs hl hsrc
  have h1 : kk * k ≤ 140737488355328 := Nat.le_trans (Nat.mul_le_mul_right _ (by omega)) hby
  have hr := Lib.run_append_grow_zeros (P := P) w t tn ty el i z .i64 .i64 hu.eq hn.eq hi1 hi4 (some ⟨b, 0, none⟩) m c xs hold kk h0 hsz hg (by simp only [maxLen] at h63; omega) (by rw [hi3]; omega) (by rw [hi3]; exact growslice_fits hg hby)
  have hge := grownCap_ge w (m + kk) c el
  refine ⟨grownCap w (m + kk) c el, (Builtin.zeroCells z.cells kk).toList, (Builtin.zeroCells z.cells (grownCap w (m + kk) c el - (m + kk))).toList, w.drew.alloc (.cells (xs.toArray ++ Builtin.zeroCells z.cells kk ++ Builtin.zeroCells z.cells (grownCap w (m + kk) c el - (m + kk))) el), fun a ha => by simp [execOp, resolve, invoke, builtin, ha.ev hs, ha.ev hx, hr], hge, grownCap_le_maxLen w (m + kk) c el h63, ?_, ?_, ?_, ⟨rfl, rfl, rfl, by simp, fun k hk _ => heap_alloc_old w.drew _ hk⟩, by simp⟩
  · have := heap_alloc_new w.drew (.cells (xs.toArray ++ Builtin.zeroCells z.cells kk ++ Builtin.zeroCells z.cells (grownCap w (m + kk) c el - (m + kk))) el)
    unfold Blk
    refine this.trans ?_
    congr 2
    simp
  · rw [Array.length_toList, size_zeroCells, hzs]
  · simp only [List.length_append, Array.length_toList, size_zeroCells, hzs, hl, ← Nat.add_mul]
    congr 1; omega
theorem z_appendZ {s x : Operand} {t tn el : TypeId} {sz k m c b : Nat} {kx : Int} (kk : Nat) {z : Value} {xs : List Value} [hu : Und P t (.slice el)] [hn : Und P tn (.int .i64)] [hz : Inf P el sz k z] (hw : Want ops e g) (hdn : d < n) (hzs : z.cells.size = sz) (hsz : 0 < sz)
    (hs : ev e s = some (.slice (some ⟨b, 0, none⟩) m c)) (hx : ev e x = some (.int .i64 kx)) (hkx : kx = (kk : Int)) (hown : Own w el sz (.slice (some ⟨b, 0, none⟩) m c) m xs) (h0 : 0 < kk) (hg : c < m + kk) (h63 : m + kk ≤ maxLen) (hby : (m + kk) * k ≤ 140737488355328)
    (h : ∀ cap zc junk w', m + kk ≤ cap → cap ≤ maxLen → Blk w' w.heap.size el (xs ++ zc ++ junk) → zc.length = kk * sz → (xs ++ zc ++ junk).length = cap * sz → Chg w w' No → w'.heap.size = w.heap.size + 1 → ZL P n ops rest ((d, .slice (some ⟨w.heap.size, 0, none⟩) (m + kk) cap) :: e) w' Q) :
    ZL P n ops (⟨some d, .call { callee := .builtin .append, args := #[s, x], argTypes := #[t, tn] }, ty, pos, aft, g⟩ :: rest) e w Q := by
  obtain ⟨cap, zc, junk, w', hr, g1, g2, g3, g4, g5, g6, g7⟩ := appendZ_run (P := P) (n := n) (d := d) (ty := ty) (pos := pos) (aft := aft) (g := g) (t := t) (tn := tn) hzs hsz hs hx hkx hown h0 hg h63 hby
  exact zl_run hw rfl hdn hr (h cap zc junk w' g1 g2 g3 g4 g5 g6 g7)
theorem z_cap {x : Operand} {A : Option Addr} {m c : Nat} {t el : TypeId} [hu : Und P t (.slice el)] (hw : Want ops e g) (hdn : d < n) (hx : ev e x = some (.slice A m c)) (h : ZL P n ops rest ((d, .int .i64 c) :: e) w Q) :
    ZL P n ops (⟨some d, .call { callee := .builtin .cap, args := #[x], argTypes := #[t] }, ty, pos, aft, g⟩ :: rest) e w Q :=
  zl_run hw rfl hdn (w' := w) (fun a ha => by simp [execOp, resolve, invoke, builtin, ha.ev hx, Builtin.cap_, run_underlying hu.eq, goInt]) h
/-- two slices in two blocks -/
theorem overlaps_run {f : FuncId} {fn : Func} {tS tR el : TypeId} {x y : Operand} {ats : Array TypeId} {b1 b2 o1 o2 l1 c1 l2 c2 sz k : Nat} {z : Value} {cs1 cs2 : List Value} {t1 t2 : TypeId} [hu : Und P tS (.slice el)] [hz : Inf P el sz k z]
    (hf : P.funcs[f]? = some fn) (hname : (fn.name == "runtime.NumGoroutine") = false) (hb : fn.body.isNone = true) (hn : Extern.findNext fn = none) (he : Extern.find fn = some (Extern.SlicesOverlaps.overlaps #[tS, tS] #[tR]))
    (hx : ev e x = some (.slice (some ⟨b1, o1, none⟩) l1 c1)) (hy : ev e y = some (.slice (some ⟨b2, o2, none⟩) l2 c2)) (h1 : Blk w b1 t1 cs1) (h2 : Blk w b2 t2 cs2) (hne : b1 ≠ b2) (hk : cs2.length ≠ 0) :
    ∀ a, Ok n e a → (execOp a.eval (⟨some d, .call { callee := .value (.func f), args := #[x, y], argTypes := ats }, ty, pos, aft, g⟩ : Oper)).run P w = .ok (.value (.bool false)) w := fun a ha => by
  have hr := run_callFunc_extern (P := P) hf hname hb hn he #[.slice (some ⟨b1, o1, none⟩) l1 c1, .slice (some ⟨b2, o2, none⟩) l2 c2] w
  have hs1 : w.shape? b1 = some (t1, cs1.length) := by unfold World.shape?; rw [show w.heap[b1]? = _ from h1]; simp
  have hs2 : w.shape? b2 = some (t2, cs2.length) := by unfold World.shape?; rw [show w.heap[b2]? = _ from h2]; simp
  have ho := Lib.run_overlaps_apart (P := P) w tS tR el hu.eq sz (fun w => hz.size w) ⟨b1, o1, none⟩ ⟨b2, o2, none⟩ l1 c1 l2 c2 hne t1 t2 _ _ hs1 hs2 hk (h1.thawed _) (h1.thawed _)
  rw [ho] at hr
  have e1 : a.eval (.func f) = .func (.func f) #[] #[] := rfl
  simp [execOp, resolve, e1, Deferred.ofValue, invoke, ha.ev hx, ha.ev hy, hr, Result.andThen]
end
end Go.Z

namespace Go.Proofs.Yteeibieaapiomaa.D
open Go Go.Z Go.Proofs
set_option linter.unusedVariables false
instance : Und Try.prog 3 (.int .i64) := ⟨Try.underlying3⟩
/-- one entry put in at i -/
def insC (cs : List Value) (i : Nat) (ec : List Value) : List Value := cs.take (i * 3) ++ ec ++ cs.drop (i * 3)
theorem ins_in {A B J ec : List Value} {a : Nat} (ha : A.length = a) (hj : 3 ≤ J.length) (hec : ec.length = 3) : Z.lay (Z.lay (A ++ B ++ J) (a + 3) B) a ec = A ++ ec ++ B ++ J.drop 3 := by
  subst ha
  obtain ⟨Y, hY, hYl⟩ : ∃ Y : List Value, (A ++ B ++ J).take (A.length + 3) = A ++ Y ∧ Y.length = 3 := by
    refine ⟨(B ++ J).take 3, ?_, by rw [List.length_take, List.length_append]; omega⟩
    rw [List.append_assoc, List.take_length_add_append]
  have hd : (A ++ B ++ J).drop (A.length + 3 + B.length) = J.drop 3 := by
    rw [show A.length + 3 + B.length = (A ++ B).length + 3 by rw [List.length_append]; omega, List.drop_length_add_append]
  have h1 : Z.lay (A ++ B ++ J) (A.length + 3) B = A ++ (Y ++ (B ++ J.drop 3)) := by
    unfold Z.lay
    rw [hY, hd]
    simp
  rw [h1]
  unfold Z.lay
  rw [List.take_left, hec, List.drop_length_add_append, ← hYl, List.drop_left]
  simp
theorem ins_grow {A Y B J ec : List Value} {a : Nat} (ha : A.length = a) (hz : Y.length = B.length + 3) (hec : ec.length = 3) : Z.lay (Z.lay (A ++ Y ++ J) a ec) (a + 3) B = A ++ ec ++ B ++ J := by
  subst ha
  have h1 : Z.lay (A ++ Y ++ J) A.length ec = A ++ ec ++ (Y.drop 3 ++ J) := by
    rw [List.append_assoc A Y J]
    unfold Z.lay
    rw [List.take_left, hec, List.drop_length_add_append, List.drop_append_of_le_length (by omega)]
  rw [h1]
  unfold Z.lay
  have hl : (A ++ ec).length = A.length + 3 := by rw [List.length_append, hec]
  rw [← hl, List.take_left, List.drop_length_add_append, List.drop_append_of_le_length (by rw [List.length_drop]; omega), List.drop_drop, List.drop_of_length_le (by omega)]
  simp
theorem insC_len {cs ec : List Value} {i n : Nat} (hc : cs.length = n * 3) (hi : i ≤ n) (he : ec.length = 3) : (insC cs i ec).length = (n + 1) * 3 := by
  unfold insC
  rw [List.length_append, List.length_append, List.length_take, List.length_drop]; omega
theorem insC_one {cs ec : List Value} {i : Nat} (h : ∀ u ∈ cs, u.oneCell' = true) (he : ∀ u ∈ ec, u.oneCell' = true) : ∀ u ∈ insC cs i ec, u.oneCell' = true := fun u hu => by
  unfold insC at hu
  rcases List.mem_append.1 hu with hu | hu
  · rcases List.mem_append.1 hu with hu | hu
    · exact h u (List.mem_of_mem_take hu)
    · exact he u hu
  · exact h u (List.mem_of_mem_drop hu)
set_option maxRecDepth 100000 in
set_option maxHeartbeats 8000000 in
theorem sIns_calls {w : World} {vo : Value} {n i vb : Nat} {cs ec : List Value} (h : Own w 74 3 vo n cs) (hvb : Blk w vb 74 ec) (hec : ec.length = 3) (h1 : ∀ u ∈ ec, u.oneCell' = true) (hne : vo.ownBlock ≠ some vb) (hn : n ≤ 1000000) (hi : i < n) :
    Calls Try.prog 52 [vo, .int .i64 i, .slice (some ⟨vb, 0, none⟩) 1 1].toArray w fun x w' => ∃ v', x = .returned v' ∧ Own w' 74 3 v' (n + 1) (insC cs i ec) ∧ Chg w w' (fun k => vo.ownBlock = some k) ∧ (v'.ownBlock = vo.ownBlock ∨ ∃ k, v'.ownBlock = some k ∧ w.heap.size ≤ k) := by
  have hcl := h.len
  rcases h.cases.2 with ⟨_, h0, _⟩ | ⟨b, cap, junk, rfl, hcap, hmax, hB, htot⟩
  · omega
  have hr : RdS w 74 3 (.slice (some ⟨vb, 0, none⟩) 1 1) 1 ec := RdS.blk hvb (by omega) (Nat.le_refl _) h1 0 (fun j u hj => by simpa using hj)
  have hneb : b ≠ vb := fun he => hne (by rw [he]; rfl)
  have hicl : i * 3 ≤ cs.length := by omega
  refine calls_zc (n := 95) (f := 52) (fn := Try.f52) Try.func52 rfl rfl (by simp) ?_
  refine zc_seq ?_
  refine zc_region ?_
  refine zl_pureL rfl ?_
  refine zl_nil ?_
  refine zk_seq ?_
  refine zc_seq ?_
  refine zc_region ?_
  iterate 2 (refine zl_pureL rfl ?_)
  refine zl_run (by first | exact want_none | exact want_L rfl) rfl (by decide) (r_cutFrom (k := i) rfl rfl (by omega) (by omega)) ?_
  refine zl_nil ?_
  refine zk_seq ?_
  refine zc_seq ?_
  refine zc_region ?_
  refine zl_pureL rfl ?_
  refine z_len want_none (by decide) rfl ?_
  refine zl_pureL rfl ?_
  refine zl_nil ?_
  refine zk_seq ?_
  iterate 2 (refine zc_seq ?_)
  refine zc_region ?_
  refine zl_pureL rfl ?_
  refine z_cmpB (r := false) want_none (by decide) rfl rfl rfl (iff_of_false Bool.false_ne_true (by omega)) ?_
  refine zl_nil ?_
  refine zk_seq ?_
  refine zc_false rfl ?_
  refine zc_skip ?_
  refine zk_seq ?_
  refine zc_seq ?_
  refine zc_region ?_
  refine zl_pureL rfl ?_
  refine z_len want_none (by decide) rfl ?_
  refine zl_pureL rfl ?_
  refine zl_nil ?_
  refine zk_seq ?_
  iterate 2 (refine zc_seq ?_)
  refine zc_region ?_
  iterate 2 (refine zl_pureL rfl ?_)
  refine z_cmpB (r := false) want_none (by decide) rfl rfl rfl (iff_of_false Bool.false_ne_true (by omega)) ?_
  refine zl_nil ?_
  refine zk_seq ?_
  refine zc_false rfl ?_
  refine zc_skip ?_
  refine zk_seq ?_
  iterate 2 (refine zc_seq ?_)
  refine zc_region ?_
  iterate 2 (refine zl_pureL rfl ?_)
  refine z_add want_none (by decide) rfl rfl (by omega) (by omega) ?_
  refine zl_pureL rfl ?_
  by_cases hroom : n + 1 ≤ cap
  · refine z_cap (by first | exact want_none | exact want_L rfl) (by decide) rfl ?_
    refine z_cmpB (r := false) want_none (by decide) rfl rfl rfl (iff_of_false Bool.false_ne_true (by omega)) ?_
    refine zl_nil ?_
    refine zk_seq ?_
    refine zc_false rfl ?_
    refine zc_skip ?_
    refine zk_seq ?_
    refine zc_seq ?_
    refine zc_region ?_
    iterate 3 (refine zl_pureL rfl ?_)
    refine z_add want_none (by decide) rfl rfl (by omega) (by omega) ?_
    refine zl_run (by first | exact want_none | exact want_L rfl) rfl (by decide) (r_cutTo (k := n + 1) (.inr ⟨_, _, rfl⟩) rfl (optI_eq rfl (by omega)) (by omega)) ?_
    refine zl_pureL rfl ?_
    refine zl_nil ?_
    refine zk_seq ?_
    iterate 2 (refine zc_seq ?_)
    refine zc_region ?_
    iterate 4 (refine zl_pureL rfl ?_)
    refine z_add want_none (by decide) rfl rfl (by omega) (by omega) ?_
    refine zl_run (by first | exact want_none | exact want_L rfl) rfl (by decide) (r_cutFrom (k := i + 1) rfl (optI_eq rfl (by omega)) (by omega) (by omega)) ?_
    rw [cutA_at (by omega), Nat.zero_add]
    skip
    refine zl_run (by first | exact want_none | exact want_L rfl) rfl (by decide) (overlaps_run (tS := 70) (tR := 4) (el := 74) (Try.func85) (by kernel_rfl) (by kernel_rfl) (by kernel_rfl) (by kernel_rfl) rfl rfl hvb hB (Ne.symm hneb) (by rw [htot]; omega)) ?_
    refine zl_pureL rfl ?_
    refine zl_nil ?_
    refine zk_seq ?_
    refine zc_true rfl ?_
    refine zc_seq ?_
    refine zc_draw [] (fun w' => Chg w w' (· = b)) (.take 0 (.take 1 (.take 2 (.take 3 (.take 4 (.take 5 (.take 6 (.take 7 (.all1 8 (.fin)))))))))) (by rfl) (by kernel_rfl) (by kernel_rfl) (fun w2 hC2 _ => ⟨?_, ?_⟩)
    · exact hC2.mono (fun _ _ h => h.elim)
    have hB2 := hB.no hC2
    iterate 3 (refine zs_take rfl (zt_pure rfl ?_))
    refine zs_rdL rfl want_none rfl (by decide) (fun _ hS => r_add rfl rfl (by omega) (by omega)) ?_
    refine zs_rdL rfl (by first | exact want_none | exact want_L rfl) rfl (by decide) (fun _ hS => r_cutFrom (k := i + 1) rfl (optI_eq rfl (by omega)) (by omega) (by omega)) ?_
    rw [cutA_at (by omega), Nat.zero_add]
    iterate 2 (refine zs_take rfl (zt_pure rfl ?_))
    refine zs_rdL rfl (by first | exact want_none | exact want_L rfl) rfl (by decide) (fun _ hS => r_cutFrom (k := i) rfl rfl (by omega) (by omega)) ?_
    rw [cutA_at (by omega), Nat.zero_add]
    skip
    have hAl : (cs.take (i * 3)).length = i * 3 := by rw [List.length_take]; omega
    have hsp : cs.take (i * 3) ++ cs.drop (i * 3) ++ junk = cs ++ junk := by rw [List.take_append_drop]
    have hBl : (cs.drop (i * 3)).length = (n - i) * 3 := by rw [List.length_drop]; omega
    have hjl : 3 ≤ junk.length := by rw [List.length_append] at htot; omega
    have hmin : Nat.min (n + 1 - i) (n + 1 - (i + 1)) = n - i := by rw [show n + 1 - (i + 1) = n - i by omega]; exact Nat.min_eq_right (by omega)
    refine zs_copy (cs := cs.drop (i * 3)) rfl (by first | exact want_none | exact want_L rfl) (by decide) rfl rfl hB2 (by rw [hmin, hBl]) (fun j u hj => by
      rw [addr_add, hB2.cell]
      rw [List.getElem?_drop] at hj
      rw [List.getElem?_append_left (List.getElem?_eq_some_iff.1 hj).1]; exact hj) (by rw [hBl, List.length_append]; omega) (fun u hu => h.2 u (List.mem_of_mem_drop hu)) (fun w3 hU3 => ?_)
    refine ⟨(hC2.mono (fun _ _ h => h.elim)).trans hU3.chg (fun _ _ h => h), ?_⟩
    have hvb3 := (hvb.no hC2).chg hU3.chg (Ne.symm hneb)
    have hB3 := hU3.blk
    refine zs_fin ?_
    refine zk_seq ?_
    refine zc_seq ?_
    refine zc_region ?_
    iterate 2 (refine zl_pureL rfl ?_)
    refine zl_run (by first | exact want_none | exact want_L rfl) rfl (by decide) (r_cutFrom (k := i) rfl rfl (by omega) (by omega)) ?_
    rw [cutA_at (by omega), Nat.zero_add]
    refine zl_pureL rfl ?_
    have hmin2 : Nat.min 1 (n + 1 - i) = 1 := Nat.min_eq_left (by omega)
    refine z_copy (cs := ec) (by first | exact want_none | exact want_L rfl) (by decide) rfl rfl hB3 (by rw [hmin2, hec]) (fun j u hj => by
      rw [addr_add, hvb3.cell, Nat.zero_add]; exact hj) (by rw [lay_len (by rw [hBl, List.length_append]; omega), List.length_append]; omega) h1 (fun w4 hU4 => ?_)
    have hB4 := hU4.blk
    rw [← hsp, show (i + 1) * 3 = i * 3 + 3 by omega, ins_in hAl hjl hec] at hB4
    refine zl_nil ?_
    refine zk_seq ?_
    refine zc_seq ?_
    refine zc_region ?_
    iterate 2 (refine zl_pureL rfl ?_)
    refine zl_nil ?_
    refine zk_seq ?_
    refine zc_ret ?_
    refine zk_ret_then ?_
    refine zk_ret1 (.inr rfl) rfl rfl ⟨_, rfl, Own.mk' (junk := junk.drop 3) (insC_len hcl (by omega) hec) hroom hmax hB4 ?_ (insC_one h.2 h1), ?_, .inl rfl⟩
    · show (insC cs i ec ++ junk.drop 3).length = cap * 3
      rw [List.length_append, insC_len hcl (by omega) hec, List.length_drop]
      rw [List.length_append] at htot; omega
    · exact ((hC2.mono (fun _ _ h => h.elim)).trans hU3.chg (fun _ _ h => by rw [h]; rfl)).trans hU4.chg (fun _ _ h => by rw [h]; rfl)
  · refine z_cap (by first | exact want_none | exact want_L rfl) (by decide) rfl ?_
    refine z_cmpB (r := true) want_none (by decide) rfl rfl rfl (iff_of_true rfl (by omega)) ?_
    refine zl_nil ?_
    refine zk_seq ?_
    refine zc_true rfl ?_
    refine zc_seq ?_
    refine zc_region ?_
    iterate 2 (refine zl_pureL rfl ?_)
    refine zl_run (by first | exact want_none | exact want_L rfl) rfl (by decide) (r_cutTo (k := i) (.inr ⟨_, _, rfl⟩) rfl rfl (by omega)) ?_
    iterate 2 (refine zl_pureL rfl ?_)
    refine z_add want_none (by decide) rfl rfl (by omega) (by omega) ?_
    refine zl_pureL rfl ?_
    refine z_sub want_none (by decide) rfl rfl (by omega) (by omega) ?_
    refine z_appendZ (n + 1 - i) (by first | exact want_none | exact want_L rfl) (by decide) (by rfl) (by decide) rfl rfl (by omega) (h.take i (by omega)) (by omega) (by omega) (by simp only [maxLen]; omega) (by omega) (fun cap2 zc junk2 w2 g1 g2 g3 g4 g5 g6 g7 => ?_)
    refine zl_pureL rfl ?_
    refine zl_nil ?_
    refine zk_seq ?_
    refine zc_seq ?_
    refine zc_region ?_
    iterate 2 (refine zl_pureL rfl ?_)
    refine zl_run (by first | exact want_none | exact want_L rfl) rfl (by decide) (r_cutFrom (k := i) rfl rfl (by omega) (by omega)) ?_
    rw [cutA_at (by omega), Nat.zero_add]
    refine zl_pureL rfl ?_
    have hAl : (cs.take (i * 3)).length = i * 3 := by rw [List.length_take]; omega
    have hBl : (cs.drop (i * 3)).length = (n - i) * 3 := by rw [List.length_drop]; omega
    have hmin1 : Nat.min 1 (i + (n + 1 - i) - i) = 1 := Nat.min_eq_left (by omega)
    have hmin2 : Nat.min (n - i) (i + (n + 1 - i) - (i + 1)) = n - i := Nat.min_eq_left (by omega)
    have hvb2 := hvb.no g6
    refine z_copy (cs := ec) (by first | exact want_none | exact want_L rfl) (by decide) rfl rfl g3 (by rw [hmin1, hec]) (fun j u hj => by
      rw [addr_add, hvb2.cell, Nat.zero_add]; exact hj) (by rw [g5]; omega) h1 (fun w3 hU3 => ?_)
    have hB3 := hU3.blk
    have hbs3 : Blk w3 b 74 (cs ++ junk) := (hB.no g6).chg hU3.chg (by have := hB.lt; omega)
    refine zl_nil ?_
    refine zk_seq ?_
    refine zc_seq ?_
    refine zc_draw [] (fun w' => Chg w w' (· = b)) (.take 0 (.take 1 (.take 2 (.take 3 (.take 4 (.take 5 (.take 6 (.take 7 (.all1 8 (.fin)))))))))) (by rfl) (by kernel_rfl) (by kernel_rfl) (fun w4 hC4 _ => ⟨?_, ?_⟩)
    · exact ((g6.mono (S' := fun k => k = b) (fun _ _ h => h.elim)).trans hU3.chg (fun k hk he => by rw [he] at hk; omega)).trans (hC4.mono (S' := fun k => k = b) (fun _ _ h => h.elim)) (fun k _ h => h)
    have hB4 := hB3.no hC4
    have hbs4 := hbs3.no hC4
    iterate 3 (refine zs_take rfl (zt_pure rfl ?_))
    refine zs_rdL rfl want_none rfl (by decide) (fun _ hS => r_add rfl rfl (by omega) (by omega)) ?_
    refine zs_rdL rfl (by first | exact want_none | exact want_L rfl) rfl (by decide) (fun _ hS => r_cutFrom (k := i + 1) rfl (optI_eq rfl (by omega)) (by omega) (by omega)) ?_
    rw [cutA_at (by omega), Nat.zero_add]
    iterate 2 (refine zs_take rfl (zt_pure rfl ?_))
    refine zs_rdL rfl (by first | exact want_none | exact want_L rfl) rfl (by decide) (fun _ hS => r_cutFrom (k := i) rfl rfl (by omega) (by omega)) ?_
    rw [cutA_at (by omega), Nat.zero_add]
    skip
    refine zs_copy (cs := cs.drop (i * 3)) rfl (by first | exact want_none | exact want_L rfl) (by decide) rfl rfl hB4 (by rw [hmin2, hBl]) (fun j u hj => by
      rw [addr_add, hbs4.cell]
      rw [List.getElem?_drop] at hj
      rw [List.getElem?_append_left (List.getElem?_eq_some_iff.1 hj).1]; exact hj) (by rw [hBl, lay_len (by rw [g5]; omega), g5]; omega) (fun u hu => h.2 u (List.mem_of_mem_drop hu)) (fun w5 hU5 => ?_)
    have hC5 : Chg w w5 No := (((g6.trans hU3.chg (S := No) (fun k hk he => by rw [he] at hk; omega))).no hC4).trans hU5.chg (fun k hk he => by rw [he] at hk; omega)
    refine ⟨hC5.mono (fun _ _ h => h.elim), ?_⟩
    have hB5 := hU5.blk
    rw [show (i + 1) * 3 = i * 3 + 3 by omega, ins_grow hAl (by rw [g4, hBl]; omega) hec] at hB5
    refine zs_fin ?_
    refine zk_seq ?_
    refine zc_seq ?_
    refine zc_region ?_
    iterate 2 (refine zl_pureL rfl ?_)
    refine zl_nil ?_
    refine zk_seq ?_
    refine zc_ret ?_
    refine zk_ret_then ?_
    refine zk_ret1 (.inr rfl) rfl rfl ⟨_, rfl, ?_, hC5.mono (fun _ _ h => h.elim), .inr ⟨_, rfl, Nat.le_refl _⟩⟩
    rw [show i + (n + 1 - i) = n + 1 by omega]
    refine Own.mk' (junk := junk2) (insC_len hcl (by omega) hec) (by omega) g2 hB5 ?_ (insC_one h.2 h1)
    show (insC cs i ec ++ junk2).length = cap2 * 3
    rw [List.length_append, insC_len hcl (by omega) hec]
    rw [List.length_append, List.length_append, hAl, g4] at g5; omega
end Go.Proofs.Yteeibieaapiomaa.D
