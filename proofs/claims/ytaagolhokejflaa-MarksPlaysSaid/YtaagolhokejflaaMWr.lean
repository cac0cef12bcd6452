import Derived.Test.YtaagolhokejflaaMOwn
/- The calls that write a list of marks. -/
namespace Go.Proofs.Ytaagolhokejflaa.M
open Go Go.Z Go.Proofs
set_option linter.unusedVariables false
/-- what a call on the list behind g may write, and where its row is then -/
structure Wr (w w' : World) (g : Nat) (v v' : Value) : Prop where
  chg : Chg w w' (foot g v)
  row : v'.ownBlock = v.ownBlock ∨ ∃ k, v'.ownBlock = some k ∧ w.heap.size ≤ k
theorem Wr.refl (w : World) (g : Nat) (v : Value) : Wr w w g v v := ⟨Chg.refl _ _, .inl rfl⟩
theorem Wr.of_no {w w' : World} (h : Chg w w' No) (g : Nat) (v : Value) : Wr w w' g v v := ⟨h.mono (fun _ _ h => h.elim), .inl rfl⟩
theorem Wr.foot {w w' : World} {g : Nat} {v v' : Value} (h : Wr w w' g v v') : ∀ i, i < w.heap.size → foot g v' i → foot g v i := by
  rintro i hi (rfl | hk)
  · exact .inl rfl
  · rcases h.row with h1 | ⟨k, h1, h2⟩
    · exact .inr (h1 ▸ hk)
    · rw [hk] at h1; cases h1; omega
theorem Wr.trans {w w1 w2 : World} {g : Nat} {v v1 v2 : Value} (h : Wr w w1 g v v1) (k : Wr w1 w2 g v1 v2) : Wr w w2 g v v2 := by
  refine ⟨h.chg.trans k.chg h.foot, ?_⟩
  rcases k.row with h1 | ⟨j, h1, h2⟩
  · rw [h1]; exact h.row
  · exact .inr ⟨j, h1, Nat.le_trans h.chg.size h2⟩
theorem Wr.no {w w1 w2 : World} {g : Nat} {v v1 : Value} (h : Wr w w1 g v v1) (k : Chg w1 w2 No) : Wr w w2 g v v1 := ⟨h.chg.no k, h.row⟩
theorem Wr.pre {w w1 w2 : World} {g : Nat} {v v2 : Value} (k : Chg w w1 No) (h : Wr w1 w2 g v v2) : Wr w w2 g v v2 := (Wr.of_no k g v).trans h
/-- rows of attributes stay -/
def K47 (w w' : World) : Prop := ∀ b cells, Blk w b 47 cells → Blk w' b 47 cells
section
variable {w w' w1 w2 : World} {S : Nat → Prop}
theorem K47.trans (h : K47 w w1) (k : K47 w1 w2) : K47 w w2 := fun b c hb => k b c (h b c hb)
theorem K47.no (h : Chg w w' No) : K47 w w' := fun b c hb => hb.no h
theorem K47.upd {b t : Nat} {cs : List Value} (h : Upd w w' b t cs) (ht : 47 ≠ t) : K47 w w' := fun _ _ hb => hb.upd h ht
theorem K47.own {v : Value} {m t sz : Nat} {cs : List Value} (h : Own w t sz v m cs) (ht : t ≠ 47) (hc : Chg w w' (fun k => v.ownBlock = some k)) : K47 w w' := fun b c hb => hb.chg hc (fun he => h.ne he hb ht rfl)
theorem AttrS.keep {v : Value} {l : List At} (h : AttrS w v l) (k : K47 w w') : AttrS w' v l := by
  obtain ⟨h1, h2, A, c, h3, h4, h5⟩ := h
  refine ⟨h1, h2, A, c, h3, h4, fun hm => ?_⟩
  obtain ⟨b, o, cells, h6, h7, h8⟩ := h5 hm
  exact ⟨b, o, cells, h6, k b cells h7, h8⟩
theorem MR.keep {m : MV} {x : Mark} (h : MR w m x) (k : K47 w w') : MR w' m x := ⟨h.1, h.2.1, h.2.2.keep k⟩
theorem all2_keep {ms : List MV} {L : List Mark} (h : All2 (MR w) ms L) (k : K47 w w') : All2 (MR w') ms L := h.imp (fun _ _ h => h.keep k)
end
def mval (m : MV) : Value := .agg #[.int .i64 m.node, .string m.name, m.attrs]
/-- a row of one mark -/
theorem RdS.mark {w w' : World} {b : Nat} {m : MV} {x : Mark} (hx : MR w m x) (h : New w w' b 32 (mval m).cells.toList) : RdS w' 32 3 (.slice (some ⟨b, 0, none⟩) 1 1) 1 (encM [m]) := by
  refine RdS.new h rfl ?_
  obtain ⟨A, c, hv, _⟩ := hx.2.2.form
  intro u hu
  simp only [encM, List.mem_cons, List.not_mem_nil, or_false] at hu
  rcases hu with rfl | rfl | rfl
  · rfl
  · rfl
  · rw [hv]; rfl
theorem IsM.mk' {w : World} {st g n : Nat} {v : Value} {ms : List MV} {cs : List Value} {L : List Mark} (hg : Blk w g st [v]) (hO : Own w 32 3 v n cs) (hn : n = ms.length) (hcs : cs = encM ms) (hA : All2 (MR w) ms L) : IsM w st g v L := by
  subst hn; subst hcs; exact ⟨hg, ms, hO, hA⟩
def Mark.wall : Mark := ⟨-1, ⟨#[]⟩, []⟩
theorem getD_mem {α : Type} {d : α} {l : List α} {k : Nat} (h : k < l.length) : l.getD k d ∈ l := by
  rw [List.getD_eq_getElem?_getD, List.getElem?_eq_getElem h]; exact List.getElem_mem h
theorem cell_no {w w' : World} {b o : Nat} {u : Value} (hc : Chg w w' No) (h : w.cell? ⟨b, o, none⟩ = some u) : w'.cell? ⟨b, o, none⟩ = some u := by
  have hlt : b < w.heap.size := by
    rcases Nat.lt_or_ge b w.heap.size with h1 | h1
    · exact h1
    · simp [World.cell?, Array.getElem?_eq_none h1] at h
  have := hc.same b hlt id
  simp only [World.cell?, this] at h ⊢
  exact h
theorem ev_ptr {e : Env} {x : Operand} {b o o' : Nat} (h : ev e x = some (.pointer (some ⟨b, o, none⟩))) (ho : o = o') : ev e x = some (.pointer (some ⟨b, o', none⟩)) := by rw [h, ho]
theorem new_calls {w : World} : Calls Try.prog 11 [].toArray w fun e w' => ∃ g, e = .returned (.pointer (some ⟨g, 0, none⟩)) ∧ IsM w' 62 g (.slice none 0 0) [] ∧ Chg w w' No ∧ w.heap.size ≤ g := by
  refine calls_zc (n := 3) (f := 11) (fn := Try.f11) Try.func11 rfl rfl (by simp) ?_
  refine zc_seq ?_
  refine zc_region ?_
  refine zl_pureL rfl ?_
  refine zl_nil ?_
  refine zk_seq ?_
  refine zc_seq ?_
  refine zc_region ?_
  refine z_buildE #[.slice none 0 0] (by first | exact want_none | exact want_L rfl) (by decide) rfl (by kernel_rfl) ?_
  refine z_box (by first | exact want_none | exact want_L rfl) (by decide) rfl (fun w1 b1 hN1 => ?_)
  refine zl_pureL rfl ?_
  refine zl_nil ?_
  refine zk_seq ?_
  refine zc_ret ?_
  exact zk_ret1 (.inr rfl) rfl rfl ⟨b1, rfl, ⟨hN1.blk, [], Own.nil, trivial⟩, hN1.chg, Nat.le_of_eq hN1.at_.symm⟩
theorem wall_calls {w : World} {g : Nat} {v : Value} {L : List Mark} (h : IsM w 62 g v L) (hl : L.length ≤ 100000) :
    Calls Try.prog 13 [Value.pointer (some ⟨g, 0, none⟩)].toArray w fun e w' => e = .returned (.tuple #[]) ∧ ∃ v', IsM w' 62 g v' (L ++ [Mark.wall]) ∧ Wr w w' g v v' := by
  have hne := h.ne (by decide)
  obtain ⟨hg, ms, hO, hA⟩ := h
  have hlen := hA.length
  have hx : MR w ⟨-1, ⟨#[]⟩, .slice none 0 0⟩ Mark.wall := ⟨rfl, rfl, AttrS.nil w⟩
  refine calls_zc (n := 12) (f := 13) (fn := Try.f13) Try.func13 rfl rfl (by simp) ?_
  refine zc_region ?_
  iterate 3 (refine zl_pureL rfl ?_)
  refine z_fa want_none (by decide) rfl ?_
  refine z_loadB want_none (by decide) rfl (by assumption) (by rfl) ?_
  refine z_buildE #[.int .i64 (-1), .string ⟨#[]⟩, .slice none 0 0] (by first | exact want_none | exact want_L rfl) (by decide) rfl (by kernel_rfl) ?_
  refine z_bs1 (by first | exact want_none | exact want_L rfl) (by decide) rfl (by rfl) (by rfl) (by decide) (by decide) (fun w1 b1 hN1 => ?_)
  have hO1 := hO.no hN1.chg
  refine z_appendO (by rfl) (by decide) (by first | exact want_none | exact want_L rfl) (by decide) rfl rfl hO1 (RdS.mark hx hN1) (by omega) (by omega) (fun v2 w2 hO2 hC2 hr2 => ?_)
  have hC12 : Chg w w2 (foot g v) := (hN1.chg.mono (fun _ _ h => h.elim)).trans hC2 (fun _ _ h => .inr h)
  have hg2 := (hg.no hN1.chg).chg hC2 hne
  have hne2 : v2.ownBlock ≠ some g := fun he => hO2.ne he hg2 (by decide) rfl
  have hK := (K47.no hN1.chg).trans (K47.own hO1 (by decide) hC2)
  obtain ⟨A2, c2, rfl, hc2⟩ := hO2.rd.form
  refine zl_pureL rfl ?_
  refine z_fa want_none (by decide) rfl ?_
  refine z_store (by first | exact want_none | exact want_L rfl) rfl rfl rfl (by assumption) (by first | exact Nat.le_refl _ | simp [Value.cells]) (by simp [Value.cells, Value.oneCell']) (fun w3 hU3 => ?_)
  refine zl_nil ?_
  refine zk_ret0 (.inl rfl) rfl ⟨rfl, _, ?_, hC12.trans hU3.chg (fun _ _ h => .inl h), hr2.imp id (fun ⟨k, h1, h2⟩ => ⟨k, h1, by have := hN1.size; omega⟩)⟩
  refine IsM.mk' (ms := ms ++ [⟨-1, ⟨#[]⟩, .slice none 0 0⟩]) hU3.blk (hO2.chg hU3.chg (fun k hk he => hne2 (he ▸ hk))) (by simp) (encM_app _ _).symm ?_
  exact All2.append (all2_keep hA (hK.trans (K47.upd hU3 (by decide)))) (All2.one (hx.keep (hK.trans (K47.upd hU3 (by decide)))))
end Go.Proofs.Ytaagolhokejflaa.M
