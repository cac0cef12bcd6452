import Derived.Test.YtbcmiijollpgeaaPTree
/- An element's begin, as the program writes it. -/
namespace Go.Z
open Go
section
variable {P : Program} {n : Nat} {e : Env} {w : World} {Q : Exit → Act → World → Prop} {ops : Array Oper} {rest : List Oper}
variable {d : Tmp} {ty : TypeId} {pos : String} {aft : Array Edge} {g : Option (Nat × Bool)}
theorem z_makeFunc {f : FuncId} {l : List Operand} {vs : List Value} (hw : Want ops e g) (hdn : d < n) (hx : evs e l = some vs) (h : ZL P n ops rest ((d, .func (.func f) vs.toArray #[]) :: e) w Q) :
    ZL P n ops (⟨some d, .makeFunc (.func f) l.toArray #[], ty, pos, aft, g⟩ :: rest) e w Q :=
  zl_run hw rfl hdn (fun A hA => by
    have hm : l.map A.eval = vs := evs_map hA hx
    simp [execOp, Instr.makeFunc, hm]) h
theorem z_callF {dst : Option Tmp} {f : FuncId} {x : Operand} {l : List Operand} {ats : Array TypeId} {us vs : List Value} {R : Ending → World → Prop} [hf : IsFn P f] (hw : Want ops e g) (hd : dst = some d) (hdn : d < n) (hfx : ev e x = some (.func (.func f) us.toArray #[])) (hx : evs e l = some vs)
    (hc : Calls P f (us ++ vs).toArray w R) (h : ∀ x w', R x w' → ∃ v, x = .returned v ∧ ZL P n ops rest ((d, v) :: e) w' Q) :
    ZL P n ops (⟨dst, .call { callee := .value x, args := l.toArray, argTypes := ats }, ty, pos, aft, g⟩ :: rest) e w Q := by
  unfold ZL at *
  intro A hA
  subst hd
  obtain ⟨fn, h1, h2, h3⟩ := hf.ex
  refine wpList_step fun K hK => ?_
  rw [if_pos (Want.wanted (o := ⟨some d, .call { callee := .value x, args := l.toArray, argTypes := ats }, ty, pos, aft, g⟩) hw hA)]
  unfold Oper.wp
  have hm : l.map A.eval = vs := evs_map hA hx
  have hr : (execOp A.eval (⟨some d, .call { callee := .value x, args := l.toArray, argTypes := ats }, ty, pos, aft, g⟩ : Oper)).run P w = .ok (.enter f (us ++ vs).toArray) w := by
    have h2' : ¬ fn.name = "runtime.NumGoroutine" := by simpa using h2
    have h3' : ¬ fn.body = none := fun h => by simp [h] at h3
    simp [execOp, resolve, hA.ev hfx, Deferred.ofValue, invoke, callFunc, h1, h2', h3', hm]
  rw [hr, Oper.upon_enter]
  refine hc.mono fun x w' hx => ?_
  obtain ⟨v, rfl, hz⟩ := h x w' hx
  exact hK _ _ (hz _ (hA.put d v hdn))
end
end Go.Z
namespace Go.Proofs.Ytbcmiijollpgeaa.T
open Go Go.Z Go.Proofs
set_option linter.unusedVariables false
theorem dec10 (l : List UInt8) (h : 0 < l.length) : ∃ r n, Utf8.decode (bs l) 0 = (r, n) ∧ (r = 10 ↔ l.head? = some 10) ∧ r ≤ 1114111 := by
  obtain ⟨r, n, h1, h2, h3⟩ := readT_law (l.drop 0).length (byteL (l.drop 0) 0) (byteL (l.drop 0) 1) (byteL (l.drop 0) 2) (byteL (l.drop 0) 3) (by rw [List.drop_zero]; exact h) (byte_le _ _) (byte_le _ _) (byte_le _ _) (byte_le _ _)
  refine ⟨r, n, by rw [decode_read l 0 h, h1], ?_, h2⟩
  obtain ⟨c, q, rfl⟩ : ∃ c q, l = c :: q := by cases l with
    | nil => simp at h
    | cons c q => exact ⟨c, q, rfl⟩
  have hb : byteL ((c :: q).drop 0) 0 = c.toNat := rfl
  rw [hb] at h3
  have e : c = 10 ↔ c.toNat = 10 := ⟨fun h => by rw [h]; rfl, fun h => by
    have : c = UInt8.ofNat c.toNat := by simp
    rw [this, h]; rfl⟩
  simp only [List.head?_cons, Option.some.injEq, e]
  omega
set_option maxHeartbeats 2000000 in
theorem feeds_calls {w : World} (l : List UInt8) : Calls Try.prog 49 [.string (bs l)].toArray w fun e w' => e = .returned (.bool (feedsS l)) ∧ Chg w w' No := by
  refine calls_zc (n := 12) (f := 49) (fn := Try.f49) Try.func49 rfl rfl (by simp) ?_
  refine zc_seq ?_
  refine zc_region ?_
  refine zl_pureL rfl ?_
  refine zl_nil ?_
  refine zk_seq ?_
  iterate 2 (refine zc_seq ?_)
  refine zc_region ?_
  refine zl_pureL rfl ?_
  refine z_range (by first | exact want_none | exact want_L rfl) (by decide) rfl (fun w1 k hk hI hC => ?_)
  refine zl_nil ?_
  refine zk_seq ?_
  refine zc_block ?_
  refine zc_loopW (ι := Nat) (fun p u => [(0, .string (bs l)), (6, .pointer (some ⟨k, 0, none⟩))]) (fun p u => u = w1) (fun p u => 0) 0 rfl ?_ ?_
  · exact ⟨rfl, rfl, trivial⟩
  rintro p u rfl
  by_cases hlt : 0 < l.length
  · obtain ⟨r, n, hd, h10, hr⟩ := dec10 l hlt
    refine zc_seq ?_
    refine zc_region ?_
    refine z_next (by first | exact want_none | exact want_L rfl) (by decide) rfl hI hlt (fun u1 hI1 hC1 => ?_)
    rw [hd] at hI1 ⊢
    dsimp only at hI1 ⊢
    have hCu : Chg w u1 No := hC.trans hC1 (fun i hi he => by subst he; omega)
    refine zl_pureL rfl ?_
    refine zl_nil ?_
    refine zk_seq ?_
    refine zc_seq ?_
    refine zc_true rfl ?_
    refine zc_skip ?_
    refine zk_seq ?_
    refine zc_block ?_
    refine zc_seq ?_
    refine zc_region ?_
    iterate 2 (refine zl_pureL rfl ?_)
    refine zl_nil ?_
    refine zk_seq ?_
    refine zc_seq ?_
    refine zc_region ?_
    refine zl_pureL rfl ?_
    by_cases hq : r = 10
    · subst hq
      refine z_cmpB (r := true) want_none (by decide) rfl rfl rfl (iff_of_true rfl (by omega)) ?_
      refine zl_pureL rfl ?_
      refine zl_nil ?_
      refine zk_seq ?_
      refine zc_ret ?_
      refine zk_ret_block ?_
      refine zk_ret_then ?_
      refine zk_ret_block ?_
      refine zk_ret_then ?_
      exact zk_ret1 (.inr rfl) rfl rfl ⟨by unfold feedsS; rw [decide_eq_true (h10.1 rfl)], hCu⟩
    · refine z_cmpB (r := false) want_none (by decide) rfl rfl rfl (iff_of_false Bool.false_ne_true (by omega)) ?_
      refine zl_pureL rfl ?_
      refine zl_nil ?_
      refine zk_seq ?_
      refine zc_ret ?_
      refine zk_ret_block ?_
      refine zk_ret_then ?_
      refine zk_ret_block ?_
      refine zk_ret_then ?_
      exact zk_ret1 (.inr rfl) rfl rfl ⟨by unfold feedsS; rw [decide_eq_false (fun h => hq (h10.2 h))], hCu⟩
  · obtain rfl : l = [] := List.eq_nil_of_length_eq_zero (by omega)
    refine zc_seq ?_
    refine zc_region ?_
    refine z_nextE (by first | exact want_none | exact want_L rfl) (by decide) rfl hI (Nat.lt_irrefl _) ?_
    refine zl_pureL rfl ?_
    refine zl_nil ?_
    refine zk_seq ?_
    refine zc_seq ?_
    refine zc_false rfl ?_
    refine zc_exit ?_
    iterate 2 (refine zk_exit_then ?_)
    refine zk_exit_block ?_
    refine zk_seq ?_
    refine zc_seq ?_
    refine zc_region ?_
    refine zl_pureL rfl ?_
    refine zl_nil ?_
    refine zk_seq ?_
    refine zc_ret ?_
    exact zk_ret1 (.inr rfl) rfl rfl ⟨rfl, hC⟩
theorem attrs_drop (l : List At) (i : Nat) (h : i < l.length) : attrsS (l.drop i) = attrP (l.getD i at0) ++ attrsS (l.drop (i + 1)) ∧ attrsN (l.drop i) = (l.getD i at0).1.length + 6 * (l.getD i at0).2.length + 4 + attrsN (l.drop (i + 1)) := by
  have : l.drop i = l.getD i at0 :: l.drop (i + 1) := by
    rw [List.drop_eq_getElem_cons h, List.getD_eq_getElem?_getD, List.getElem?_eq_getElem h]; rfl
  rw [this]
  exact ⟨rfl, rfl⟩
theorem attrsN_drop : ∀ (l : List At) (i : Nat), attrsN (l.drop i) ≤ attrsN l
  | l, 0 => Nat.le_refl _
  | [], i + 1 => Nat.le_refl _
  | a :: r, i + 1 => by have := attrsN_drop r i; simp only [List.drop_succ_cons, attrsN]; omega
theorem attrs_cnt : ∀ l : List At, l.length ≤ attrsN l
  | [] => Nat.le_refl _
  | a :: r => by have := attrs_cnt r; simp only [List.length_cons, attrsN]; omega
set_option maxHeartbeats 8000000 in
theorem open_calls {w : World} {v : Value} {l : List At} (nm : List UInt8) (h : AttrS false w v l) (hl : nm.length + attrsN l ≤ big) : Calls Try.prog 12 [.string (bs nm), v].toArray w fun e w' => e = .returned (.string (bs (openS nm l))) ∧ Chg w w' No := by
  have hbig : big = 1000000000000 := rfl
  rw [hbig] at hl
  have hcl := attrs_cnt l
  obtain ⟨A, c, rfl, hc⟩ := h.form
  refine calls_zc (n := 30) (f := 12) (fn := Try.f12) Try.func12 rfl rfl (by simp) ?_
  refine zc_seq ?_
  refine zc_region ?_
  refine zl_pureL rfl ?_
  refine zl_nil ?_
  refine zk_seq ?_
  refine zc_seq ?_
  refine zc_region ?_
  refine zl_pureL rfl ?_
  refine z_catL want_none (by decide) rfl rfl (by simp only [List.length_append, List.length_cons, List.length_nil]; omega) ?_
  refine zl_pureL rfl ?_
  refine zl_nil ?_
  refine zk_seq ?_
  iterate 2 (refine zc_seq ?_)
  refine zc_region ?_
  refine zl_pureL rfl ?_
  refine z_len want_none (by decide) rfl ?_
  refine zl_pureL rfl ?_
  refine zl_nil ?_
  refine zk_seq ?_
  refine zc_block ?_
  refine zc_loopW (ι := Nat × List UInt8) (fun q u => [(5, .string (bs q.2)), (10, .slice A l.length c), (11, .int .i64 l.length), (12, .int .i64 q.1)])
    (fun q u => q.1 ≤ l.length ∧ q.2 ++ attrsS (l.drop q.1) = [60] ++ nm ++ attrsS l ∧ Chg w u No) (fun q u => l.length - q.1) (0, [60] ++ nm) ⟨Nat.zero_le _, rfl, Chg.refl _ _⟩ ?_ ?_
  · exact ⟨rfl, rfl, rfl, rfl, trivial⟩
  rintro ⟨i, out⟩ u ⟨hi, hd, hC⟩
  dsimp only at hi hd hC ⊢
  have hol : out.length ≤ nm.length + attrsN l + 1 := by
    have := congrArg List.length hd
    have h2 := attrs_len l
    simp only [List.length_append, List.length_cons, List.length_nil] at this; omega
  by_cases hlt : i < l.length
  · obtain ⟨b, o, c', hv, h0, h1⟩ := (h.no hC).at_ i hlt
    cases hv
    obtain ⟨e1, e2⟩ := attrs_drop l i hlt
    have e3 := attrsN_drop l i
    have hsl := safe_len true (l.getD i at0).2
    rw [e1] at hd
    unfold attrP at hd
    generalize l.getD i at0 = a at h0 h1 hd e2 hsl
    obtain ⟨ak, av⟩ := a
    dsimp only at h0 h1 hd e2 hsl
    refine zc_seq ?_
    refine zc_region ?_
    refine z_cmpB (r := true) want_none (by decide) rfl rfl rfl (iff_of_true rfl (by omega)) ?_
    refine zl_nil ?_
    refine zk_seq ?_
    refine zc_seq ?_
    refine zc_true rfl ?_
    refine zc_skip ?_
    refine zk_seq ?_
    refine zc_seq ?_
    refine zc_block ?_
    refine zc_seq ?_
    refine zc_region ?_
    refine z_ia want_none (by decide) rfl rfl (by omega) (by omega) ?_
    refine z_loadA (by rfl) (by first | exact want_none | exact want_L rfl) (by decide) rfl (agg2 h0 h1 (by omega)) ?_
    refine z_alloc (by first | exact want_none | exact want_L rfl) (by decide) (fun u1 b1 hN1 => ?_)
    have hb1 : Blk u1 b1 33 [.string ⟨#[]⟩, .string ⟨#[]⟩] := hN1.blk
    skip
    refine z_store (by first | exact want_none | exact want_L rfl) rfl rfl rfl (by assumption) (by first | exact Nat.le_refl _ | simp [Value.cells]) (by simp [Value.cells, Value.oneCell']) (fun u2 hU2 => ?_)
    have hb2 : Blk u2 b1 33 [.string (bs ak), .string (bs av)] := hU2.blk
    have hC2 := hN1.chg.upd hU2 (hN1.ge (Chg.refl _ No))
    refine zl_nil ?_
    refine zk_seq ?_
    refine zc_draw [] (fun w' => w'.cell? ⟨b1, 0, none⟩ = some (.string (bs ak)) ∧ w'.cell? ⟨b1, 1, none⟩ = some (.string (bs av))) (.take 0 (.take 1 (.take 2 (.take 3 (.take 4 (.take 5 (.take 6 (.all1 7 (.take 8 (.take 9 (.take 10 (.take 11 (.fin))))))))))))) (by rfl) (by kernel_rfl) (by kernel_rfl) (fun u3 hC3 _ => ⟨?_, ?_⟩)
    · have hb3 := hb2.no hC3
      exact ⟨by simpa using hb3.cell 0, by simpa using hb3.cell 1⟩
    have hb3 := hb2.no hC3
    refine zs_take rfl (zt_pure rfl ?_)
    refine zs_rdL rfl want_none rfl (by decide) (fun _ hS => r_fa rfl) ?_
    refine zs_rdL rfl want_none rfl (by decide) (fun _ hS => r_load1 rfl hS.1) ?_
    iterate 2 (refine zs_rdL rfl want_none rfl (by decide) (fun _ hS => r_catL rfl rfl (by simp only [List.length_append, List.length_cons, List.length_nil]; omega)) ?_)
    refine zs_rdL rfl want_none rfl (by decide) (fun _ hS => r_fa rfl) ?_
    refine zs_rdL rfl want_none rfl (by decide) (fun _ hS => r_load1 rfl hS.2) ?_
    refine zs_call rfl (by first | exact want_none | exact want_L rfl) rfl (by decide) rfl (safe_calls av true (by rw [hbig]; omega)) ?_
    rintro _ u4 ⟨rfl, hC4⟩
    have hb4 := hb3.no hC4
    refine ⟨_, rfl, ⟨by simpa using hb4.cell 0, by simpa using hb4.cell 1⟩, ?_⟩
    iterate 3 (refine zs_rdL rfl want_none rfl (by decide) (fun _ hS => r_catL rfl rfl (by simp only [List.length_append, List.length_cons, List.length_nil]; omega)) ?_)
    refine zs_take rfl (zt_pure rfl ?_)
    refine zs_fin ?_
    refine zk_norm_block ?_
    refine zk_seq ?_
    refine zc_region ?_
    refine z_add want_none (by decide) rfl rfl (by omega) (by omega) ?_
    refine zl_pureL rfl ?_
    refine zl_nil ?_
    exact zk_loopW (i + 1, out ++ ([32] ++ ak ++ [61, 34] ++ safeN true av ++ [34])) ⟨by omega, by rw [← hd]; simp only [List.append_assoc], ((hC.no hC2).no hC3).no hC4⟩ (by show l.length - (i + 1) < l.length - i; omega) ⟨rfl, rfl, rfl, get_int rfl (by simp), trivial⟩
  · obtain rfl : i = l.length := by omega
    rw [List.drop_length, show attrsS [] = [] from rfl, List.append_nil] at hd
    refine zc_seq ?_
    refine zc_region ?_
    refine z_cmpB (r := false) want_none (by decide) rfl rfl rfl (iff_of_false Bool.false_ne_true (by omega)) ?_
    refine zl_nil ?_
    refine zk_seq ?_
    refine zc_seq ?_
    refine zc_false rfl ?_
    refine zc_exit ?_
    iterate 2 (refine zk_exit_then ?_)
    refine zk_exit_block ?_
    refine zk_seq ?_
    refine zc_seq ?_
    refine zc_region ?_
    refine zl_pureL rfl ?_
    refine z_catL want_none (by decide) rfl rfl (by simp only [List.length_append, List.length_cons, List.length_nil]; omega) ?_
    refine zl_pureL rfl ?_
    refine zl_nil ?_
    refine zk_seq ?_
    refine zc_ret ?_
    exact zk_ret1 (.inr rfl) rfl rfl ⟨by rw [hd]; simp [openS], hC⟩
end Go.Proofs.Ytbcmiijollpgeaa.T
