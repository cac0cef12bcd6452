import Derived.Test.YteeibieaapiomaaSMap
/- A Site in memory; what is asked of its open elements. -/
namespace Go.Z
open Go
section
variable {P : Program} {n : Nat} {e : Env} {w : World} {Q : Exit → Act → World → Prop} {ops : Array Oper} {rest : List Oper}
theorem z_field {d : Tmp} {ty : TypeId} {pos : String} {aft : Array Edge} {g : Option (Nat × Bool)} {s f : Nat} {x : Operand} {v u : Value} (hw : Want ops e g) (hdn : d < n) (hx : ev e x = some v) (hf : (Instr.field s v f).run P w = .ok u w) (h : ZL P n ops rest ((d, u) :: e) w Q) :
    ZL P n ops (⟨some d, .field s x f, ty, pos, aft, g⟩ :: rest) e w Q := zl_run hw rfl hdn (fun a ha => by simp [execOp, ha.ev hx, hf]) h
end
end Go.Z
namespace Go.Proofs.Yteeibieaapiomaa.D
open Go Go.Z Go.Proofs
set_option linter.unusedVariables false
structure Ent where
  n : Nat
  sp : Int
  nm : ByteArray
def en0 : Ent := ⟨0, 1, ⟨#[]⟩⟩
def Ent.cells (e : Ent) : List Value := [.int .i64 e.n, .int .i64 e.sp, .string e.nm]
def encE : List Ent → List Value
  | [] => []
  | e :: r => .int .i64 e.n :: .int .i64 e.sp :: .string e.nm :: encE r
theorem encE_len : ∀ l : List Ent, (encE l).length = l.length * 3
  | [] => rfl
  | m :: r => by simp [encE, encE_len r]; omega
theorem encE_app : ∀ l r : List Ent, encE (l ++ r) = encE l ++ encE r
  | [], r => rfl
  | m :: l, r => by simp [encE, encE_app l r]
theorem encE_one : ∀ (l : List Ent), ∀ u ∈ encE l, u.oneCell' = true
  | [], u, h => by simp [encE] at h
  | m :: r, u, h => by
    simp only [encE, List.mem_cons] at h
    rcases h with rfl | rfl | rfl | h
    · rfl
    · rfl
    · rfl
    · exact encE_one r u h
theorem encE_get : ∀ (l : List Ent) (i : Nat), i < l.length → ∀ j u, (l.getD i en0).cells[j]? = some u → (encE l)[i * 3 + j]? = some u
  | [], i, h, j, u, hu => by simp at h
  | m :: l, 0, h, j, u, hu => by
    have hj : j < 3 := (List.getElem?_eq_some_iff.1 hu).1
    simp only [List.getD_cons_zero] at hu
    match j, hj with
    | 0, _ | 1, _ | 2, _ => simpa [encE, Ent.cells] using hu
  | m :: l, i + 1, h, j, u, hu => by
    have := encE_get l i (by simpa using h) j u (by simpa using hu)
    rw [show (i + 1) * 3 + j = i * 3 + j + 1 + 1 + 1 by omega]
    simpa [encE] using this
theorem encE_take : ∀ (l : List Ent) (k : Nat), encE (l.take k) = (encE l).take (k * 3)
  | [], k => by simp [encE]
  | m :: l, 0 => by simp [encE]
  | m :: l, k + 1 => by simp [encE, encE_take l k, show (k + 1) * 3 = k * 3 + 1 + 1 + 1 by omega]
theorem encE_drop : ∀ (l : List Ent) (k : Nat), encE (l.drop k) = (encE l).drop (k * 3)
  | [], k => by simp [encE]
  | m :: l, 0 => by simp [encE]
  | m :: l, k + 1 => by simp [encE, encE_drop l k, show (k + 1) * 3 = k * 3 + 1 + 1 + 1 by omega]
def boolC (l : List Bool) : List Value := l.map (fun b => .bool b)
theorem boolC_len (l : List Bool) : (boolC l).length = l.length * 1 := by simp [boolC]
theorem boolC_get (l : List Bool) (i : Nat) (h : i < l.length) : (boolC l)[i]? = some (.bool (l.getD i false)) := by
  simp [boolC, List.getElem?_map, List.getElem?_eq_getElem h, List.getD_eq_getElem?_getD]
structure SP where
  pd : Nat
  pm : Nat
  vl : Value
  Q : List PN
  vm : Value
  vo : Value
  vi : Value
  r : Nat
structure IsS (w : World) (s : Nat) (q : SP) (E : List Ent) (I : List Bool) (m : ByteArray → Int) (N : List ND) (f : Bool) : Prop where
  blk : Blk w s 72 [.pointer (some ⟨q.pd, 0, none⟩), .pointer (some ⟨q.pm, 0, none⟩), q.vo, q.vi, .map (some q.r), .bool f]
  doc : IsD w q.pd q.vl q.Q N
  mrk : Blk w q.pm 91 [q.vm]
  own : Own w 74 3 q.vo E.length (encE E)
  iso : Own w 4 1 q.vi I.length (boolC I)
  mp : MpI w q.r m
def footS (s : Nat) (q : SP) (k : Nat) : Prop := k = s ∨ q.vo.ownBlock = some k ∨ q.vi.ownBlock = some k ∨ k = q.r ∨ foot q.pd q.vl q.Q k
section
variable {w w' : World} {s : Nat} {q : SP} {E : List Ent} {I : List Bool} {m : ByteArray → Int} {N : List ND} {f : Bool} {S : Nat → Prop}
theorem IsD.noT {p : Nat} {vl : Value} {Q : List PN} (h : IsD w p vl Q N) {b t : Nat} {cs : List Value} (hb : Blk w b t cs) (h1 : t ≠ 102) (h2 : t ≠ 76) (h3 : t ≠ 80) (h4 : t ≠ 5) (h5 : t ≠ 3) : ¬ foot p vl Q b := by
  rintro (he | he | ⟨i, hi, he⟩)
  · exact hb.ne h.blk h1 he
  · exact h.row.ne he hb (Ne.symm h2) rfl
  · exact (h.at_ i (by rw [← h.len]; exact hi)).ne he hb h3 h4 h5 rfl
theorem OwnB.blk' {t : Nat} {v : Value} {l : List UInt8} (h : OwnB w t v l) {k : Nat} (hk : v.ownBlock = some k) {r : Nat} (hm : MpI w r m) : k ≠ r := by
  rintro rfl
  obtain ⟨es, c, h1, _⟩ := hm
  rcases h with ⟨rfl, _⟩ | ⟨b, cap, junk, fz, rfl, h2⟩
  · cases hk
  · simp only [Value.ownBlock, Option.some.injEq] at hk
    subst hk
    have := h2
    simp_all
theorem IsS.no (h : IsS w s q E I m N f) (hc : Chg w w' No) : IsS w' s q E I m N f := ⟨h.blk.no hc, h.doc.no hc, h.mrk.no hc, h.own.no hc, h.iso.no hc, h.mp.no hc⟩
theorem IsS.lt (h : IsS w s q E I m N f) : ∀ k, footS s q k → k < w.heap.size := by
  rintro k (rfl | hk | hk | rfl | hk)
  · exact h.blk.lt
  · exact h.own.lt hk
  · exact h.iso.lt hk
  · exact h.mp.lt
  · exact h.doc.lt k hk
theorem IsS.at_ (h : IsS w s q E I m N f) (i : Nat) (hi : i < E.length) : ∃ b o c, q.vo = .slice (some ⟨b, o, none⟩) E.length c ∧ w.cell? ⟨b, o + i * 3, none⟩ = some (.int .i64 (E.getD i en0).n) ∧ w.cell? ⟨b, o + i * 3 + 1, none⟩ = some (.int .i64 (E.getD i en0).sp) ∧ w.cell? ⟨b, o + i * 3 + 2, none⟩ = some (.string (E.getD i en0).nm) := by
  obtain ⟨b, o, c, hv, _, hc⟩ := RdS.some h.own.rd (by omega)
  have hg := encE_get E i hi
  exact ⟨b, o, c, hv, by have := hc _ _ (hg 0 _ rfl); exact this, by have := hc _ _ (hg 1 _ rfl); rwa [← Nat.add_assoc] at this, by have := hc _ _ (hg 2 _ rfl); rwa [← Nat.add_assoc] at this⟩
theorem agg3 {b o o' : Nat} {v0 v1 v2 : Value} (h0 : w.cell? ⟨b, o', none⟩ = some v0) (h1 : w.cell? ⟨b, o' + 1, none⟩ = some v1) (h2 : w.cell? ⟨b, o' + 2, none⟩ = some v2) (he : o = o') : ∀ j u, [v0, v1, v2][j]? = some u → w.cell? ((⟨b, o, none⟩ : Addr).add j) = some u := by
  subst he; intro j u hj; rw [addr_add]
  match j, hj with
  | 0, hj => simp at hj; subst hj; exact h0
  | 1, hj => simp at hj; subst hj; exact h1
  | 2, hj => simp at hj; subst hj; exact h2
theorem sDoc_calls (h : IsS w s q E I m N f) : Calls Try.prog 10 [.pointer (some ⟨s, 0, none⟩)].toArray w fun e w' => e = .returned (.pointer (some ⟨q.pd, 0, none⟩)) ∧ w' = w := by
  have hb := h.blk
  refine calls_zc (n := 7) (f := 10) (fn := Try.f10) Try.func10 rfl rfl (by simp) ?_
  refine zc_seq ?_
  refine zc_region ?_
  refine zl_pureL rfl ?_
  refine zl_nil ?_
  refine zk_seq ?_
  refine zc_seq ?_
  refine zc_region ?_
  iterate 2 (refine zl_pureL rfl ?_)
  refine z_fa want_none (by decide) rfl ?_
  refine z_loadB want_none (by decide) rfl (by assumption) (by rfl) ?_
  refine zl_pureL rfl ?_
  refine zl_nil ?_
  refine zk_seq ?_
  refine zc_ret ?_
  exact zk_ret1 (.inr rfl) rfl rfl ⟨rfl, rfl⟩
theorem sMarks_calls (h : IsS w s q E I m N f) : Calls Try.prog 22 [.pointer (some ⟨s, 0, none⟩)].toArray w fun e w' => e = .returned (.pointer (some ⟨q.pm, 0, none⟩)) ∧ w' = w := by
  have hb := h.blk
  refine calls_zc (n := 7) (f := 22) (fn := Try.f22) Try.func22 rfl rfl (by simp) ?_
  refine zc_seq ?_
  refine zc_region ?_
  refine zl_pureL rfl ?_
  refine zl_nil ?_
  refine zk_seq ?_
  refine zc_seq ?_
  refine zc_region ?_
  iterate 2 (refine zl_pureL rfl ?_)
  refine z_fa want_none (by decide) rfl ?_
  refine z_loadB want_none (by decide) rfl (by assumption) (by rfl) ?_
  refine zl_pureL rfl ?_
  refine zl_nil ?_
  refine zk_seq ?_
  refine zc_ret ?_
  exact zk_ret1 (.inr rfl) rfl rfl ⟨rfl, rfl⟩
def lastE (E : List Ent) : Ent := E.getD (E.length - 1) en0
theorem sLast_calls (h : IsS w s q E I m N f) (hE : 0 < E.length) (hl : E.length ≤ 1000000) : Calls Try.prog 49 [.pointer (some ⟨s, 0, none⟩)].toArray w fun e w' => e = .returned (.agg #[.int .i64 (lastE E).n, .int .i64 (lastE E).sp, .string (lastE E).nm]) ∧ Chg w w' No := by
  have hb := h.blk
  obtain ⟨b, o, c, hv, h0, h1, h2⟩ := h.at_ (E.length - 1) (by omega)
  rw [hv] at hb
  refine calls_zc (n := 15) (f := 49) (fn := Try.f49) Try.func49 rfl rfl (by simp) ?_
  refine zc_seq ?_
  refine zc_region ?_
  refine z_alloc (by first | exact want_none | exact want_L rfl) (by decide) (fun w1 b1 hN1 => ?_)
  have hb1 : Blk w1 b1 74 [.int .i64 0, .int .i64 0, .string ⟨#[]⟩] := hN1.blk
  have hbs := hb.no hN1.chg
  refine zl_nil ?_
  refine zk_seq ?_
  refine zc_seq ?_
  refine zc_draw [12] (fun w' => Chg w w' No ∧ Blk w' s 72 [.pointer (some ⟨q.pd, 0, none⟩), .pointer (some ⟨q.pm, 0, none⟩), .slice (some ⟨b, o, none⟩) E.length c, q.vi, .map (some q.r), .bool f]) (.take 0 (.take 1 (.take 2 (.take 3 (.take 4 (.take 5 (.take 6 (.take 7 (.take 8 (.take 9 (.take 10 (.take 11 (.last 12))))))))))))) (by rfl) (by kernel_rfl) (by kernel_rfl) (fun w2 hC2 _ => ⟨?_, ?_⟩)
  · exact ⟨hN1.chg.no hC2, hbs.no hC2⟩
  have hb12 := hb1.no hC2
  iterate 2 (refine zs_take rfl (zt_pure rfl ?_))
  refine zs_rdL rfl want_none rfl (by decide) (fun _ hS => r_fa rfl) ?_
  refine zs_rdL rfl want_none rfl (by decide) (fun _ hS => r_loadB rfl hS.2 (by rfl)) ?_
  iterate 2 (refine zs_take rfl (zt_pure rfl ?_))
  refine zs_rdL rfl want_none rfl (by decide) (fun _ hS => r_fa rfl) ?_
  refine zs_rdL rfl want_none rfl (by decide) (fun _ hS => r_loadB rfl hS.2 (by rfl)) ?_
  refine zs_rdL rfl want_none rfl (by decide) (fun _ hS => r_len rfl) ?_
  refine zs_rdL rfl want_none rfl (by decide) (fun _ hS => r_sub rfl rfl (by omega) (by omega)) ?_
  refine zs_rdL rfl want_none rfl (by decide) (fun _ hS => r_ia rfl rfl (by omega) (by omega)) ?_
  refine zs_rdL rfl (by first | exact want_none | exact want_L rfl) rfl (by decide) (fun _ hS => r_loadA rfl rfl (agg3 (cell_no hS.1 h0) (cell_no hS.1 h1) (cell_no hS.1 h2) (by omega))) ?_
  skip
  refine zs_storeL rfl (by first | exact want_none | exact want_L rfl) rfl rfl rfl (by assumption) (by first | exact Nat.le_refl _ | simp [Value.cells]) (by simp [Value.cells, Value.oneCell']) (fun w3 hU3 => ?_)
  have hb3 : Blk w3 b1 74 [.int .i64 (lastE E).n, .int .i64 (lastE E).sp, .string (lastE E).nm] := hU3.blk
  refine zk_seq ?_
  refine zc_ret ?_
  exact zk_retC (.inr rfl) rfl rfl hb3 rfl ⟨rfl, (hN1.chg.no hC2).upd hU3 (hN1.ge (Chg.refl _ No))⟩
theorem fld3 (w : World) (c0 c1 c2 : Value) : (Instr.field 74 (.agg #[c0, c1, c2]) 0).run Try.prog w = .ok c0 w := by kernel_rfl
end
end Go.Proofs.Yteeibieaapiomaa.D
