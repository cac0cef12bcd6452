import Derived.Test.YtbcmiijollpgeaaZP
import Derived.Lib.Builder
import Derived.Lib.AppendStr
import Derived.Lib.UnsafeStr
import Derived.Laws.Externs
import Derived.LaidEqlPtr
/- A builder of strings, in a block of its own or at the begin of another thing: what its calls write. -/
namespace Go.Z
open Go Go.Proofs
section
variable {P : Program} {n : Nat} {e : Env} {w : World} {Q : Exit → Act → World → Prop} {ops : Array Oper} {rest : List Oper}
variable {d : Tmp} {ty : TypeId} {pos : String} {aft : Array Edge} {g : Option (Nat × Bool)}
theorem z_appendSt {s x : Operand} {t u el : TypeId} {m B : Nat} {v : Value} {r : List UInt8} {xs : List Value} [hu : Und P t (.slice el)] [hs' : Und P u .string] [hz : Inf P el 1 1 (.int .u8 0)] (hw : Want ops e g) (hdn : d < n)
    (hs : ev e s = some v) (hx : ev e x = some (.string (bs r))) (hown : w.ownsRow B el 1 v m xs) (hby : m + r.length ≤ 140737488355328) (hB : B ≤ w.heap.size)
    (h : ∀ v' w', w'.ownsRow B el 1 v' (m + r.length) (xs ++ Lib.strCells (bs r)) → Chg w w' (fun k => v.ownBlock = some k) → ZL P n ops rest ((d, v') :: e) w' Q) :
    ZL P n ops (⟨some d, .call { callee := .builtin .append, args := #[s, x], argTypes := #[t, u] }, ty, pos, aft, g⟩ :: rest) e w Q := by
  obtain ⟨i, hi1, hi2, hi3, hi4⟩ := hz.ex
  obtain ⟨v', w', hr, ho, hg, _⟩ := Lib.run_append_own_string w B t u ty el i hu.eq hs'.eq hi1 hi4 hi2 hi3 v m xs hown (bs r) (by rw [bs_size]; unfold maxLen; omega) (by rw [bs_size]; omega) hB
  rw [bs_size] at ho
  exact zl_run (v := v') (w' := w') hw rfl hdn (fun A hA => by simp [execOp, resolve, invoke, builtin, hA.ev hs, hA.ev hx, hr]) (h v' w' ho ⟨hg.os, hg.tape, hg.output, hg.size, fun k hk hn => hg.block k hk (fun he => hn he.symm)⟩)
theorem z_appendB {s x : Operand} {t el : TypeId} {sz k m m' B : Nat} {z v xv : Value} {xs news : List Value} [hu : Und P t (.slice el)] [hz : Inf P el sz k z] (hzs : z.cells.size = sz) (hsz : 0 < sz) (hw : Want ops e g) (hdn : d < n)
    (hs : ev e s = some v) (hx : ev e x = some xv) (hown : w.ownsRow B el sz v m xs) (hnews : RdS w el sz xv m' news) (h1 : ∀ u ∈ xs, u.oneCell' = true) (h63 : m + m' ≤ 9223372036854775807) (hby : (m + m') * k ≤ 140737488355328) (hB : B ≤ w.heap.size)
    (h : ∀ v' w', w'.ownsRow B el sz v' (m + m') (xs ++ news) → Chg w w' (fun k => v.ownBlock = some k) → ZL P n ops rest ((d, v') :: e) w' Q) :
    ZL P n ops (⟨some d, .call { callee := .builtin .append, args := #[s, x], argTypes := #[t, t] }, ty, pos, aft, g⟩ :: rest) e w Q := by
  have hO0 : Own w el sz v m xs := by
    refine ⟨⟨hown.1, ?_⟩, h1⟩
    rcases hown.2 with h | ⟨g, cap, cur, e1, e2, e3⟩
    · exact .inl h
    · exact .inr ⟨g, cap, cur, e1, Nat.zero_le _, e3⟩
  refine z_appendO hzs hsz hw hdn hs hx hO0 hnews h63 hby (fun v' w' hO' hC hr => h v' w' ?_ hC)
  obtain ⟨⟨a1, a2⟩, _⟩ := hO'
  refine ⟨a1, ?_⟩
  rcases a2 with h | ⟨g, cap, cur, rfl, e2, e3⟩
  · exact .inl h
  · refine .inr ⟨g, cap, cur, rfl, ?_, e3⟩
    rcases hr with hr | ⟨q, hr, hq⟩
    · rcases hown.2 with ⟨rfl, _⟩ | ⟨g', cap', cur', rfl, e2', _⟩
      · cases hr
      · simp only [Value.ownBlock, Option.some.injEq] at hr; omega
    · simp only [Value.ownBlock, Option.some.injEq] at hr; omega
theorem run_ptr_eqGuard (op : BinOp) (t : TypeId) (x y : Operand) (p q : Option Addr) : (eqGuard op t x y (.pointer p) (.pointer q)).run P w = .ok () w := by
  cases op <;> rfl
theorem z_ptrNil {x : Operand} {q : Bool} {t el : TypeId} {p : Option Addr} [hu : Und P t (.pointer el)] (hw : Want ops e g) (hdn : d < n) (hx : ev e x = some (.pointer p)) (hq : q = p.isNone) (h : ZL P n ops rest ((d, .bool q) :: e) w Q) :
    ZL P n ops (⟨some d, .binOp .eql t x (.const (.pointer none)) t, ty, pos, aft, g⟩ :: rest) e w Q :=
  zl_run hw rfl hdn (fun A hA => by
    have hp : P.underlying t = some (.pointer (P.pointee t)) := by simp [Program.pointee, hu.eq]
    have := run_eql_pointer_nil (P := P) (w := w) t p hp
    have he : A.eval (.const (.pointer none)) = .pointer none := rfl
    cases p <;> simp [execOp, hA.ev hx, he, run_ptr_eqGuard, this, hq]) h
theorem z_ptrNe {x y : Operand} {t el : TypeId} {a : Addr} {s k : Nat} {z : Value} [hu : Und P t (.pointer el)] [hz : Inf P el s k z] (hw : Want ops e g) (hdn : d < n) (hx : ev e x = some (.pointer (some a))) (hy : ev e y = some (.pointer (some a))) (h : ZL P n ops rest ((d, .bool false) :: e) w Q) :
    ZL P n ops (⟨some d, .binOp .neq t x y t, ty, pos, aft, g⟩ :: rest) e w Q :=
  zl_run hw rfl hdn (fun A hA => by
    obtain ⟨i, hi1, hi2, hi3, hi4⟩ := hz.ex
    have := Lib.run_neq_ptr_same (P := P) w a hu.eq hi1
    simp [execOp, hA.ev hx, hA.ev hy, run_ptr_eqGuard, this]) h
theorem z_noEsc {x : Operand} {f : FuncId} {fn : Func} {v : Value} {ats : Array TypeId} (hf : P.funcs[f]? = some fn) (h1 : (fn.name == "runtime.NumGoroutine") = false) (h2 : fn.body.isNone = true) (h3 : Extern.findNext fn = none) (h4 : Extern.find fn = some Extern.AbiNoEscape.same) (hw : Want ops e g) (hdn : d < n) (hx : ev e x = some v)
    (h : ZL P n ops rest ((d, v) :: e) w Q) : ZL P n ops (⟨some d, .call { callee := .value (.func f), args := #[x], argTypes := ats }, ty, pos, aft, g⟩ :: rest) e w Q :=
  zl_run hw rfl hdn (fun A hA => by
    have hr : (callFunc f #[v]).run P w = .ok (.value v) w := by
      rw [run_callFunc_extern hf h1 h2 h3 h4]
      rw [Lib.run_noEscape]; rfl
    have he : A.eval (.func f) = .func (.func f) #[] #[] := rfl
    simp [execOp, resolve, he, Deferred.ofValue, invoke, hA.ev hx, hr]) h
theorem z_toU {x : Operand} {src dst t T : TypeId} {b s k : Nat} {cs : List Value} {z : Value} [hs : Und P src (.pointer t)] [hd : Und P dst .unsafePointer] [hz : Inf P t s k z] (hs0 : s ≠ 0) (hw : Want ops e g) (hdn : d < n) (hx : ev e x = some (.pointer (some ⟨b, 0, none⟩))) (hb : Blk w b T cs) (hc : 0 < cs.length)
    (h : ZL P n ops rest ((d, .pointer (some ⟨b, 0, none⟩)) :: e) w Q) : ZL P n ops (⟨some d, .convert src dst x, ty, pos, aft, g⟩ :: rest) e w Q :=
  zl_run hw rfl hdn (fun A hA => by
    obtain ⟨i, hi1, hi2, hi3, hi4⟩ := hz.ex
    have hb' : w.heap[b]? = _ := hb
    have := Lib.run_to_unsafe (P := P) w ⟨b, 0, none⟩ hs.eq hd.eq hi1 (by rw [hi2]; exact hs0) (e := T) (cells := cs.length) (by simp [World.shape?, hb']) hc
    simp [execOp, hA.ev hx, this]) h
theorem z_fromU {x : Operand} {src dst t T : TypeId} {b s k : Nat} {cs : List Value} {z : Value} [hs : Und P src .unsafePointer] [hd : Und P dst (.pointer t)] [hz : Inf P t s k z] (hl : liesAt P P.depth T (cs.length / P.cellsOf T) 0 t 1 = true) (hw : Want ops e g) (hdn : d < n) (hx : ev e x = some (.pointer (some ⟨b, 0, none⟩))) (hb : Blk w b T cs)
    (h : ZL P n ops rest ((d, .pointer (some ⟨b, 0, none⟩)) :: e) w Q) : ZL P n ops (⟨some d, .convert src dst x, ty, pos, aft, g⟩ :: rest) e w Q :=
  zl_run hw rfl hdn (fun A hA => by
    obtain ⟨i, hi1, hi2, hi3, hi4⟩ := hz.ex
    have hb' : w.heap[b]? = _ := hb
    have := Lib.run_from_unsafe (P := P) w ⟨b, 0, none⟩ hs.eq hd.eq hi1 (e := T) (cells := cs.length) (by simp [World.shape?, hb']) hl
    simp [execOp, hA.ev hx, this]) h
end
end Go.Z
namespace Go.Proofs.Ytbcmiijollpgeaa.T
open Go Go.Z Go.Proofs
set_option linter.unusedVariables false
theorem cellsB_one (l : List UInt8) : ∀ u ∈ cellsB l, u.oneCell' = true := by
  intro u hu
  simp only [cellsB, List.mem_map] at hu
  obtain ⟨b, _, rfl⟩ := hu
  rfl
theorem cellsB_app (l r : List UInt8) : cellsB (l ++ r) = cellsB l ++ cellsB r := by simp [cellsB]
theorem cellsB_len (l : List UInt8) : (cellsB l).length = l.length := by simp [cellsB]
theorem strCells_bs (r : List UInt8) : Lib.strCells (bs r) = cellsB r := by
  simp [Lib.strCells, cellsB, bs]
/-- the things that begin with a builder -/
instance : Und Try.prog 87 .unsafePointer := ⟨by kernel_rfl⟩
class IsB (T : TypeId) : Prop where
  lies : liesAt Try.prog Try.prog.depth T (2 / Try.prog.cellsOf T) 0 56 1 = true
  ne5 : T ≠ 5
  ne9 : T ≠ 9
instance : IsB 56 := ⟨by kernel_rfl, by decide, by decide⟩
instance : IsB 58 := ⟨by kernel_rfl, by decide, by decide⟩
/-- what a builder's calls may change -/
def Sb (w : World) (B b : Nat) : Nat → Prop := fun k => k = b ∨ (B ≤ k ∧ ∃ cs, Blk w k 5 cs)
theorem Sb.trans {w w1 w2 : World} {B b : Nat} (h : Chg w w1 (Sb w B b)) (h2 : Chg w1 w2 (Sb w1 B b)) : Chg w w2 (Sb w B b) := by
  refine h.trans h2 (fun i hi hs => ?_)
  by_cases hq : Sb w B b i
  · exact hq
  · rcases hs with hs | ⟨hs, cs, hb⟩
    · exact .inl hs
    · refine .inr ⟨hs, cs, ?_⟩
      have := h.same i hi hq
      unfold Blk at hb ⊢
      rw [← this]; exact hb
/-- a builder in block b (of type T) that holds the bytes l; the rows that are its own begin at B -/
def Bd (T : TypeId) (w : World) (B b : Nat) (l : List UInt8) : Prop :=
  ∃ p v, (p = none ∨ p = some ⟨b, 0, none⟩) ∧ Blk w b T [.pointer p, v] ∧ w.ownsRow B 5 1 v l.length (cellsB l) ∧ ∃ A c, v = .slice A l.length c
theorem Chg.ofB {w w' : World} {B : Nat} (h : RowKit.Below B w w') : Chg w w' (fun k => B ≤ k) := ⟨h.os, h.tape, h.output, h.size, fun k _ hn => h.block k (by omega)⟩
theorem Chg.liftS {w0 w w' : World} {B b : Nat} (h0 : Chg w0 w No) (hB : w0.heap.size ≤ B) (hb : w0.heap.size ≤ b) (h : Chg w w' (Sb w B b)) : Chg w0 w' No := h0.trans h (fun i hi hs => by rcases hs with hs | ⟨hs, _⟩ <;> omega)
theorem Chg.lift {w0 w w' : World} {B : Nat} (h0 : Chg w0 w No) (hB : w0.heap.size ≤ B) (h : Chg w w' (fun k => B ≤ k)) : Chg w0 w' No := h0.trans h (fun i hi hb => by omega)
theorem own_form {w : World} {B e m : Nat} {v : Value} {xs : List Value} (h : w.ownsRow B e 1 v m xs) : ∃ A c, v = .slice A m c := by
  rcases h.2 with ⟨rfl, rfl⟩ | ⟨g, cap, cur, rfl, _⟩
  · exact ⟨none, 0, rfl⟩
  · exact ⟨_, _, rfl⟩
theorem own_ge {w : World} {B e sz m : Nat} {v : Value} {xs : List Value} (h : w.ownsRow B e sz v m xs) : ∀ k, v.ownBlock = some k → B ≤ k ∧ ∃ cs, Blk w k e cs := by
  intro k hk
  rcases h.2 with ⟨rfl, _⟩ | ⟨g, cap, cur, rfl, e2, e3, _⟩
  · cases hk
  · simp only [Value.ownBlock, Option.some.injEq] at hk; subst hk; exact ⟨e2, cur.toList, by simpa [Blk] using e3⟩
theorem own_chg {w w' : World} {B e sz m : Nat} {v : Value} {xs : List Value} {S : Nat → Prop} (h : w.ownsRow B e sz v m xs) (hc : Chg w w' S) (hn : ∀ k, v.ownBlock = some k → ¬ S k) : w'.ownsRow B e sz v m xs := by
  refine ⟨h.1, ?_⟩
  rcases h.2 with h2 | ⟨g, cap, cur, rfl, e2, e3, e4⟩
  · exact .inl h2
  · refine .inr ⟨g, cap, cur, rfl, e2, ?_, e4⟩
    have hlt : g < w.heap.size := (Array.getElem?_eq_some_iff.1 e3).1
    rw [hc.same g hlt (hn g rfl)]; exact e3
section
variable {T : TypeId} {w w' : World} {B b : Nat} {l : List UInt8}
theorem Bd.fresh (hb : Blk w b T [.pointer none, .slice none 0 0]) : Bd T w B b [] :=
  ⟨none, .slice none 0 0, .inl rfl, hb, World.ownsRow_nil _ _ _ _, none, 0, rfl⟩
theorem Bd.chg {S : Nat → Prop} (h : Bd T w B b l) (hc : Chg w w' S) (hb' : ¬ S b) (hS : ∀ k, k < w.heap.size → B ≤ k → ¬ S k) : Bd T w' B b l := by
  obtain ⟨p, v, hp, hb, ho, hv⟩ := h
  refine ⟨p, v, hp, hb.chg hc hb', own_chg ho hc (fun k hk => ?_), hv⟩
  obtain ⟨h1, cs, h2⟩ := own_ge ho k hk
  exact hS k h2.lt h1
theorem Bd.no (h : Bd T w B b l) (hc : Chg w w' No) : Bd T w' B b l := h.chg hc id (fun _ _ _ => id)
theorem Bd.lt (h : Bd T w B b l) : b < w.heap.size := by obtain ⟨p, v, hp, hb, _⟩ := h; exact hb.lt
end
section
variable {T : TypeId} [hT : IsB T] {w w' : World} {B b : Nat} {l : List UInt8}
set_option maxRecDepth 100000 in
set_option maxHeartbeats 2000000 in
theorem cc_calls (h : Bd T w B b l) : Calls Try.prog 51 [.pointer (some ⟨b, 0, none⟩)].toArray w fun e w' => e = .returned (.tuple #[]) ∧
    (∃ v, Blk w' b T [.pointer (some ⟨b, 0, none⟩), v] ∧ w'.ownsRow B 5 1 v l.length (cellsB l) ∧ ∃ A c, v = .slice A l.length c) ∧ Chg w w' (Sb w B b) := by
  obtain ⟨p, v, hp, hb, ho, A, c, hv⟩ := h
  have hT0 := hT
  refine calls_zc (n := 20) (f := 51) (fn := Try.f51) Try.func51 rfl rfl (by simp) ?_
  refine zc_seq ?_
  refine zc_region ?_
  iterate 2 (refine zl_pureL rfl ?_)
  refine z_fa want_none (by decide) rfl ?_
  refine z_loadB want_none (by decide) rfl (by assumption) (by rfl) ?_
  refine z_ptrNil (by first | exact want_none | exact want_L rfl) (by decide) rfl rfl ?_
  rcases hp with rfl | rfl
  · refine zl_nil ?_
    refine zk_seq ?_
    refine zc_true rfl ?_
    refine zc_region ?_
    iterate 2 (refine zl_pureL rfl ?_)
    refine z_toU (T := T) (b := b) (by decide) (by first | exact want_none | exact want_L rfl) (by decide) rfl hb (by simp) ?_
    refine z_noEsc Try.func60 (by kernel_rfl) (by kernel_rfl) (by kernel_rfl) (by kernel_rfl) (by first | exact want_none | exact want_L rfl) (by decide) rfl ?_
    refine z_fromU (T := T) (b := b) (t := 56) (cs := [.pointer none, v]) hT.lies (by first | exact want_none | exact want_L rfl) (by decide) rfl hb ?_
    refine zl_pureL rfl ?_
    refine z_fa want_none (by decide) rfl ?_
    refine z_store (by first | exact want_none | exact want_L rfl) rfl rfl rfl (by assumption) (by first | exact Nat.le_refl _ | simp [Value.cells]) (by simp [Value.cells, Value.oneCell']) (fun w2 hU => ?_)
    refine zl_nil ?_
    refine zk_ret0 (.inl rfl) rfl ⟨rfl, ⟨v, hU.blk, own_chg ho hU.chg (fun k hk he => ?_), A, c, hv⟩, (Chg.refl _ _).updS hU (.inr (.inl rfl))⟩
    obtain ⟨h1, cs, h2⟩ := own_ge ho k hk
    subst he
    exact h2.ne hb (Ne.symm hT.ne5) rfl
  · refine zl_nil ?_
    refine zk_seq ?_
    refine zc_false rfl ?_
    refine zc_seq ?_
    refine zc_region ?_
    iterate 2 (refine zl_pureL rfl ?_)
    refine z_fa want_none (by decide) rfl ?_
    refine z_loadB want_none (by decide) rfl (by assumption) (by rfl) ?_
    refine zl_pureL rfl ?_
    refine z_ptrNe (by first | exact want_none | exact want_L rfl) (by decide) rfl rfl ?_
    refine zl_nil ?_
    refine zk_seq ?_
    refine zc_false rfl ?_
    refine zc_skip ?_
    exact zk_ret0 (.inl rfl) rfl ⟨rfl, ⟨v, hb, ho, A, c, hv⟩, Chg.refl _ _⟩
theorem own_cells {w : World} {B : Nat} {v : Value} {l : List UInt8} (h : w.ownsRow B 5 1 v l.length (cellsB l)) {g : Nat} {c : Nat} (hv : v = .slice (some ⟨g, 0, none⟩) l.length c) :
    ∃ cur : Array Value, w.heap[g]? = some (.cells cur 5 (0, 0)) ∧ l.length ≤ c ∧ c ≤ maxLen ∧ cur.size = c ∧ ∀ (j : Nat) (x : UInt8), l[j]? = some x → w.cell? ⟨g, j, none⟩ = some (.int .u8 x.toNat) := by
  obtain ⟨h1, h2⟩ := h
  rcases h2 with ⟨h2, _⟩ | ⟨g', cap, cur, h2, _, hg, h3, h4, h5, h6⟩
  · rw [hv] at h2; cases h2
  · rw [hv] at h2; cases h2
    refine ⟨cur, hg, h3, h4, by simpa using h5, fun j x hj => ?_⟩
    have hlt : j < l.length := (List.getElem?_eq_some_iff.1 hj).1
    have h7 : (cellsB l)[j]? = some (.int .u8 x.toNat) := by simp [cellsB, hj]
    rw [← h6, List.getElem?_take_of_lt (by omega)] at h7
    simp [World.cell?, hg]
    simpa using h7
set_option maxHeartbeats 2000000 in
theorem ws_calls (r : List UInt8) (h : Bd T w B b l) (hl : l.length + r.length ≤ 140737488355328) (hB : B ≤ w.heap.size) :
    Calls Try.prog 41 [.pointer (some ⟨b, 0, none⟩), .string (bs r)].toArray w fun e w' => e = .returned (.tuple #[.int .i64 r.length, .nilIface]) ∧ Bd T w' B b (l ++ r) ∧ Chg w w' (Sb w B b) := by
  have hT0 := hT
  refine calls_zc (n := 19) (f := 41) (fn := Try.f41) Try.func41 rfl rfl (by simp) ?_
  refine zc_seq ?_
  refine zc_region ?_
  iterate 2 (refine zl_pureL rfl ?_)
  refine zl_nil ?_
  refine zk_seq ?_
  refine zc_seq ?_
  refine zc_region ?_
  refine zl_pureL rfl ?_
  refine zl_call (by first | exact want_none | exact want_L rfl) rfl (by decide) rfl (cc_calls h) ?_
  rintro _ w1 ⟨rfl, ⟨v, hb1, hO, A, c, hv⟩, hC1⟩
  refine ⟨_, rfl, ?_⟩
  have hs1 := hC1.size
  subst hv
  refine zl_nil ?_
  refine zk_seq ?_
  refine zc_seq ?_
  refine zc_region ?_
  iterate 3 (refine zl_pureL rfl ?_)
  refine z_fa want_none (by decide) rfl ?_
  refine z_loadB want_none (by decide) rfl (by assumption) (by rfl) ?_
  refine zl_pureL rfl ?_
  refine z_appendSt (u := 9) (el := 5) (by first | exact want_none | exact want_L rfl) (by decide) rfl rfl hO (by omega) (by omega) (fun v3 w3 hO3 hC3 => ?_)
  have hne : ∀ k, (Value.slice A l.length c).ownBlock = some k → k ≠ b := fun k hk he => by
    obtain ⟨_, cs, h2⟩ := own_ge hO k hk
    exact h2.ne hb1 (Ne.symm hT.ne5) he
  have hb3 := hb1.chg hC3 (fun he => hne b he rfl)
  obtain ⟨A3, c3, hv3⟩ := own_form hO3
  subst hv3
  refine zl_pureL rfl ?_
  refine z_fa want_none (by decide) rfl ?_
  refine z_store (by first | exact want_none | exact want_L rfl) rfl rfl rfl (by assumption) (by first | exact Nat.le_refl _ | simp [Value.cells]) (by simp [Value.cells, Value.oneCell']) (fun w4 hU4 => ?_)
  refine zl_nil ?_
  refine zk_seq ?_
  refine zc_seq ?_
  refine zc_region ?_
  refine zl_pureL rfl ?_
  refine z_lenL want_none (by decide) rfl ?_
  iterate 2 (refine zl_pureL rfl ?_)
  refine zl_nil ?_
  refine zk_seq ?_
  refine zc_ret ?_
  have hne3 : ∀ k, (Value.slice A3 (l.length + r.length) c3).ownBlock = some k → k ≠ b := fun k hk he => by
    obtain ⟨_, cs, h2⟩ := own_ge hO3 k hk
    exact h2.ne hb3 (Ne.symm hT.ne5) he
  refine zk_ret2 (.inr rfl) rfl rfl rfl ⟨rfl, ⟨some ⟨b, 0, none⟩, _, .inr rfl, hU4.blk, ?_, A3, c3, by rw [List.length_append]⟩, (Sb.trans hC1 (hC3.mono (fun i hi he => .inr (own_ge hO i he)))).trans hU4.chg (fun i hi he => .inl he)⟩
  have := own_chg hO3 hU4.chg (fun k hk he => hne3 k hk he)
  rw [strCells_bs] at this
  rw [List.length_append, cellsB_app]
  exact this
set_option maxHeartbeats 2000000 in
theorem wb_calls (c : UInt8) (h : Bd T w B b l) (hl : l.length + 1 ≤ 140737488355328) (hB : B ≤ w.heap.size) :
    Calls Try.prog 50 [.pointer (some ⟨b, 0, none⟩), .int .u8 c.toNat].toArray w fun e w' => e = .returned .nilIface ∧ Bd T w' B b (l ++ [c]) ∧ Chg w w' (Sb w B b) := by
  have hT0 := hT
  refine calls_zc (n := 17) (f := 50) (fn := Try.f50) Try.func50 rfl rfl (by simp) ?_
  refine zc_seq ?_
  refine zc_region ?_
  refine zl_pureL rfl ?_
  refine zl_nil ?_
  refine zk_seq ?_
  refine zc_seq ?_
  refine zc_region ?_
  refine zl_pureL rfl ?_
  refine zl_call (by first | exact want_none | exact want_L rfl) rfl (by decide) rfl (cc_calls h) ?_
  rintro _ w1 ⟨rfl, ⟨v, hb1, hO, A, c1, hv⟩, hC1⟩
  refine ⟨_, rfl, ?_⟩
  have hs1 := hC1.size
  subst hv
  refine zl_nil ?_
  refine zk_seq ?_
  refine zc_seq ?_
  refine zc_region ?_
  iterate 3 (refine zl_pureL rfl ?_)
  refine z_fa want_none (by decide) rfl ?_
  refine z_loadB want_none (by decide) rfl (by assumption) (by rfl) ?_
  refine zl_pureL rfl ?_
  refine z_bs1 (by first | exact want_none | exact want_L rfl) (by decide) rfl (by rfl) (by rfl) (by decide) (by decide) (fun w2 b2 hN2 => ?_)
  have hC2 := hC1.no hN2.chg
  have hO2 := own_chg hO hN2.chg (fun _ _ => id)
  have hb2 := hb1.no hN2.chg
  have hr2 : RdS w2 5 1 (.slice (some ⟨b2, 0, none⟩) 1 1) 1 [.int .u8 c.toNat] := RdS.new hN2 rfl (fun u hu => by simp only [List.mem_singleton] at hu; subst hu; rfl)
  refine z_appendB (B := B) (by rfl) (by decide) (by first | exact want_none | exact want_L rfl) (by decide) rfl rfl hO2 hr2 (cellsB_one l) (by omega) (by omega) (by have := hC2.size; omega) (fun v3 w3 hO3 hC3 => ?_)
  have hne : ∀ k, (Value.slice A l.length c1).ownBlock = some k → k ≠ b := fun k hk he => by
    obtain ⟨_, cs, h2⟩ := own_ge hO2 k hk
    exact h2.ne hb2 (Ne.symm hT.ne5) he
  have hb3 := hb2.chg hC3 (fun he => hne b he rfl)
  obtain ⟨A3, c3, hv3⟩ := own_form hO3
  subst hv3
  refine zl_pureL rfl ?_
  refine z_fa want_none (by decide) rfl ?_
  refine z_store (by first | exact want_none | exact want_L rfl) rfl rfl rfl (by assumption) (by first | exact Nat.le_refl _ | simp [Value.cells]) (by simp [Value.cells, Value.oneCell']) (fun w4 hU4 => ?_)
  refine zl_nil ?_
  refine zk_seq ?_
  refine zc_seq ?_
  refine zc_region ?_
  refine zl_pureL rfl ?_
  refine zl_nil ?_
  refine zk_seq ?_
  refine zc_ret ?_
  have hne3 : ∀ k, (Value.slice A3 (l.length + 1) c3).ownBlock = some k → k ≠ b := fun k hk he => by
    obtain ⟨_, cs, h2⟩ := own_ge hO3 k hk
    exact h2.ne hb3 (Ne.symm hT.ne5) he
  refine zk_ret1 (.inr rfl) rfl rfl ⟨rfl, ⟨some ⟨b, 0, none⟩, _, .inr rfl, hU4.blk, ?_, A3, c3, by rw [List.length_append]; rfl⟩, (Sb.trans hC2 (hC3.mono (fun i hi he => .inr (own_ge hO2 i he)))).trans hU4.chg (fun i hi he => .inl he)⟩
  have := own_chg hO3 hU4.chg (fun k hk he => hne3 k hk he)
  rw [List.length_append, cellsB_app]
  exact this
theorem cell_of {w w' : World} {b : Nat} {o : Nat} {S : Nat → Prop} (hb : b < w.heap.size) (hn : ¬ S b) (hc : Chg w w' S) : w'.cell? ⟨b, o, none⟩ = w.cell? ⟨b, o, none⟩ := by
  simp only [World.cell?, hc.same b hb hn]
theorem Chg.alloc1 (w : World) (x : Obj) : Chg w (w.alloc x) No := Chg.of_below ((RowKit.Below.refl w.heap.size w).alloc (Nat.le_refl _) _)
theorem Chg.freeze1 (w : World) (g n : Nat) : Chg w (w.freeze ⟨g, 0, none⟩ n) (fun k => k = g) := by
  unfold World.freeze
  split
  · exact Chg.refl _ _
  · refine ⟨rfl, rfl, rfl, by simp, fun k hk hn => ?_⟩
    simp only [Array.getElem?_modify]
    rw [if_neg (fun h => hn h.symm)]
theorem alloc_cell (w : World) (x : Obj) (a : Addr) (h : a.block < w.heap.size) : (w.alloc x).cell? a = w.cell? a := by
  have := (Chg.alloc1 w x).same a.block h id
  simp only [World.cell?, this]
theorem freeze_cell (w : World) (g n b : Nat) (hn : b ≠ g) (o : Nat) : (w.freeze ⟨g, 0, none⟩ n).cell? ⟨b, o, none⟩ = w.cell? ⟨b, o, none⟩ := by
  unfold World.freeze
  split
  · rfl
  · simp [World.cell?, Array.getElem?_modify, Ne.symm hn]
set_option maxHeartbeats 4000000 in
theorem str_calls (h : Bd T w B b l) (hB : B ≤ w.heap.size) : Calls Try.prog 25 [.pointer (some ⟨b, 0, none⟩)].toArray w fun e w' => e = .returned (.string (bs l)) ∧ Chg w w' (Sb w B b) := by
  have hT0 := hT
  obtain ⟨p, v, hp, hb, hO, A, c, hv⟩ := h
  subst hv
  refine calls_zc (n := 14) (f := 25) (fn := Try.f25) Try.func25 rfl rfl (by simp) ?_
  refine zc_seq ?_
  refine zc_region ?_
  refine zl_pureL rfl ?_
  refine zl_nil ?_
  refine zk_seq ?_
  refine zc_seq ?_
  refine zc_draw [] (fun w' => w'.cell? ⟨b, 1, none⟩ = some (.slice A l.length c)) (.take 0 (.take 1 (.take 2 (.take 3 (.take 5 (.take 6 (.take 7 (.take 8 (.take 9 (.all1 4 (.all1 10 (.take 11 (.fin))))))))))))) (by rfl) (by kernel_rfl) (by kernel_rfl) (fun w1 hC1 _ => ⟨?_, ?_⟩)
  · have := (hb.no hC1).cell 1; simpa using this
  have hb1 := hb.no hC1
  have hO1 := own_chg hO hC1 (fun _ _ => id)
  have hs1 := hC1.size
  have hc1 : w1.cell? ⟨b, 1, none⟩ = some (.slice A l.length c) := by have := hb1.cell 1; simpa using this
  repeat (first | (show ZS _ _ _ _ _ (.take _ _) _ _ _; (first | (show ZL _ _ _ _ _ _ _; first | (show ZL _ _ _ [] _ _ _; (refine zl_nil ?_)) | (first | (show ZL _ _ _ (⟨_, (.move _), _, _, _, _⟩ :: _) _ _ _; (refine zl_pureL rfl ?_)) | (show ZL _ _ _ (⟨_, (.assign _), _, _, _, _⟩ :: _) _ _ _; (refine zl_pureL rfl ?_)) | (show ZL _ _ _ (⟨_, (.nilCheck _), _, _, _, _⟩ :: _) _ _ _; (refine zl_pureL rfl ?_)) | (show ZL _ _ _ (⟨_, (.pick _ _ _), _, _, _, _⟩ :: _) _ _ _; (refine zl_pureL rfl ?_)) | (show ZL _ _ _ (⟨_, (.extract _ _), _, _, _, _⟩ :: _) _ _ _; (refine zl_pureL rfl ?_)) | (show ZL _ _ _ (⟨_, (.unOp .not _ _), _, _, _, _⟩ :: _) _ _ _; (refine zl_pureL rfl ?_)) | (show ZL _ _ _ (⟨_, (.load _ _), _, _, _, _⟩ :: _) _ _ _; first | (refine z_loadB (by first | (exact want_none) | (exact want_L rfl)) (by decide) rfl (by assumption) (by rfl) ?_) | (refine z_load1 (by first | (exact want_none) | (exact want_L rfl)) (by decide) rfl (by assumption) ?_) | (refine z_loadAB (by first | (exact want_none) | (exact want_L rfl)) (by decide) rfl (by assumption) (by rfl) ?_)) | (show ZL _ _ _ (⟨_, (.fieldAddr _ _ _), _, _, _, _⟩ :: _) _ _ _; (refine z_fa (by first | (exact want_none) | (exact want_L rfl)) (by decide) rfl ?_)) | (show ZL _ _ _ (⟨_, (.indexAddr _ _ _), _, _, _, _⟩ :: _) _ _ _; (refine z_ia (by first | (exact want_none) | (exact want_L rfl)) (by decide) rfl rfl (by omega) (by omega) ?_)) | (show ZL _ _ _ (⟨_, (.call ⟨.builtin .len, _, _⟩), _, _, _, _⟩ :: _) _ _ _; first | (refine z_len (by first | (exact want_none) | (exact want_L rfl)) (by decide) rfl ?_) | (refine z_lenL (by first | (exact want_none) | (exact want_L rfl)) (by decide) rfl ?_) | (refine z_lenS (by first | (exact want_none) | (exact want_L rfl)) (by decide) rfl ?_)) | (show ZL _ _ _ (⟨_, (.binOp .add _ _ _ _), _, _, _, _⟩ :: _) _ _ _; first | (refine z_add (by first | (exact want_none) | (exact want_L rfl)) (by decide) rfl rfl (by omega) (by omega) ?_) | (refine z_catL (by first | (exact want_none) | (exact want_L rfl)) (by decide) rfl rfl (by omega) ?_) | (refine z_catL (by first | (exact want_none) | (exact want_L rfl)) (by decide) rfl rfl (by simp only [List.length_append, List.length_cons, List.length_nil]; omega) ?_)) | (show ZL _ _ _ (⟨_, (.binOp .sub _ _ _ _), _, _, _, _⟩ :: _) _ _ _; (refine z_sub (by first | (exact want_none) | (exact want_L rfl)) (by decide) rfl rfl (by omega) (by omega) ?_)) | (show ZL _ _ _ (⟨_, (.index _ _ _), _, _, _, _⟩ :: _) _ _ _; first | (refine z_idxP (by first | (exact want_none) | (exact want_L rfl)) (by decide) rfl rfl (by omega) ?_) | (refine z_idxM (by first | (exact want_none) | (exact want_L rfl)) (by decide) rfl rfl (by omega) (by omega) ?_) | (refine z_idxC 0 (by first | (exact want_none) | (exact want_L rfl)) (by decide) rfl rfl rfl (by omega) ?_) | (refine z_idxC 1 (by first | (exact want_none) | (exact want_L rfl)) (by decide) rfl rfl rfl (by omega) ?_) | (refine z_idxN (by first | (exact want_none) | (exact want_L rfl)) (by decide) rfl rfl (by omega) ?_) | (refine z_idxA (by first | (exact want_none) | (exact want_L rfl)) (by decide) rfl rfl (by omega) ?_)) | (show ZL _ _ _ (⟨_, (.binOp _ _ _ _ _), _, _, _, _⟩ :: _) _ _ _; first | (refine z_cmpB (r := true) (by first | (exact want_none) | (exact want_L rfl)) (by decide) rfl rfl rfl (iff_of_true rfl (by omega)) ?_) | (refine z_cmpB (r := false) (by first | (exact want_none) | (exact want_L rfl)) (by decide) rfl rfl rfl (iff_of_false Bool.false_ne_true (by omega)) ?_)) | (show ZL _ _ _ (⟨_, _, _, _, _, some _⟩ :: _) _ _ _; (refine zl_skip rfl ?_)))) | (show ZC _ _ _ _ _ _; first | (show ZC _ _ (.seq _ _) _ _ _; (refine zc_seq ?_)) | (show ZC _ _ (.region _ _ false) _ _ _; (refine zc_region ?_)) | (show ZC _ _ (.block _ _) _ _ _; (refine zc_block ?_)) | (show ZC _ _ .skip _ _ _; (refine zc_skip ?_)) | (show ZC _ _ (.exit _) _ _ _; (refine zc_exit ?_)) | (show ZC _ _ .ret _ _ _; (refine zc_ret ?_)) | (show ZC _ _ (.cond _ _ _) _ _ _; first | (refine zc_true rfl ?_) | (refine zc_false rfl ?_))) | (show ZK _ _ _ _ _; first | (refine zk_seq ?_) | (refine zk_exit_then ?_) | (refine zk_ret_then ?_) | (refine zk_ret_block ?_) | (refine zk_norm_block ?_) | (refine zk_exit_block ?_) | (refine zk_exit_block' rfl ?_)) | (show ZS _ _ _ _ _ _ _ _ _; first | (show ZS _ _ _ _ _ (.take _ _) _ _ _; (refine zs_take rfl ?_; first | (show ZT _ _ _ _ _ _ _ ⟨_, (.move _), _, _, _, _⟩ _ _ _; (refine zt_pure rfl ?_)) | (show ZT _ _ _ _ _ _ _ ⟨_, (.assign _), _, _, _, _⟩ _ _ _; (refine zt_pure rfl ?_)) | (show ZT _ _ _ _ _ _ _ ⟨_, (.nilCheck _), _, _, _, _⟩ _ _ _; (refine zt_pure rfl ?_)) | (show ZT _ _ _ _ _ _ _ ⟨_, (.pick _ _ _), _, _, _, _⟩ _ _ _; (refine zt_pure rfl ?_)) | (show ZT _ _ _ _ _ _ _ ⟨_, (.extract _ _), _, _, _, _⟩ _ _ _; (refine zt_pure rfl ?_)) | (show ZT _ _ _ _ _ _ _ ⟨_, (.unOp .not _ _), _, _, _, _⟩ _ _ _; (refine zt_pure rfl ?_)) | (show ZT _ _ _ _ _ _ _ ⟨_, (.load _ _), _, _, _, _⟩ _ _ _; first | (refine zt_rd (by first | (exact want_none) | (exact want_L rfl)) rfl (by decide) (fun _ hS => r_loadB rfl (by first | (exact hS) | (exact hS.1) | (exact hS.2) | (exact hS.2.1) | (exact hS.2.2) | (exact hS.2.2.1) | (exact hS.2.2.2) | (exact hS.2.2.2.1) | (exact hS.2.2.2.2) | (exact hS.2.2.2.2.1) | (exact hS.2.2.2.2.2)) (by rfl)) ?_) | (refine zt_rd (by first | (exact want_none) | (exact want_L rfl)) rfl (by decide) (fun _ hS => r_load1 rfl (by first | (exact hS) | (exact hS.1) | (exact hS.2) | (exact hS.2.1) | (exact hS.2.2) | (exact hS.2.2.1) | (exact hS.2.2.2) | (exact hS.2.2.2.1) | (exact hS.2.2.2.2) | (exact hS.2.2.2.2.1) | (exact hS.2.2.2.2.2))) ?_) | (refine zt_rd (by first | (exact want_none) | (exact want_L rfl)) rfl (by decide) (fun _ hS => r_loadAB rfl (by first | (exact hS) | (exact hS.1) | (exact hS.2) | (exact hS.2.1) | (exact hS.2.2) | (exact hS.2.2.1) | (exact hS.2.2.2) | (exact hS.2.2.2.1) | (exact hS.2.2.2.2) | (exact hS.2.2.2.2.1) | (exact hS.2.2.2.2.2)) (by rfl)) ?_)) | (show ZT _ _ _ _ _ _ _ ⟨_, (.fieldAddr _ _ _), _, _, _, _⟩ _ _ _; (refine zt_rd (by first | (exact want_none) | (exact want_L rfl)) rfl (by decide) (fun _ hS => r_fa rfl) ?_)) | (show ZT _ _ _ _ _ _ _ ⟨_, (.indexAddr _ _ _), _, _, _, _⟩ _ _ _; (refine zt_rd (by first | (exact want_none) | (exact want_L rfl)) rfl (by decide) (fun _ hS => r_ia rfl rfl (by omega) (by omega)) ?_)) | (show ZT _ _ _ _ _ _ _ ⟨_, (.call ⟨.builtin .len, _, _⟩), _, _, _, _⟩ _ _ _; first | (refine zt_rd (by first | (exact want_none) | (exact want_L rfl)) rfl (by decide) (fun _ hS => r_len rfl) ?_) | (refine zt_rd (by first | (exact want_none) | (exact want_L rfl)) rfl (by decide) (fun _ hS => r_lenL rfl) ?_) | (refine zt_rd (by first | (exact want_none) | (exact want_L rfl)) rfl (by decide) (fun _ hS => r_lenS rfl) ?_)) | (show ZT _ _ _ _ _ _ _ ⟨_, (.binOp .add _ _ _ _), _, _, _, _⟩ _ _ _; first | (refine zt_rd (by first | (exact want_none) | (exact want_L rfl)) rfl (by decide) (fun _ hS => r_add rfl rfl (by omega) (by omega)) ?_) | (refine zt_rd (by first | (exact want_none) | (exact want_L rfl)) rfl (by decide) (fun _ hS => r_catL rfl rfl (by omega)) ?_) | (refine zt_rd (by first | (exact want_none) | (exact want_L rfl)) rfl (by decide) (fun _ hS => r_catL rfl rfl (by simp only [List.length_append, List.length_cons, List.length_nil]; omega)) ?_)) | (show ZT _ _ _ _ _ _ _ ⟨_, (.binOp .sub _ _ _ _), _, _, _, _⟩ _ _ _; (refine zt_rd (by first | (exact want_none) | (exact want_L rfl)) rfl (by decide) (fun _ hS => r_sub rfl rfl (by omega) (by omega)) ?_)) | (show ZT _ _ _ _ _ _ _ ⟨_, (.index _ _ _), _, _, _, _⟩ _ _ _; (refine zt_rd (by first | (exact want_none) | (exact want_L rfl)) rfl (by decide) (fun _ hS => r_idxN rfl rfl (by omega)) ?_)) | (show ZT _ _ _ _ _ _ _ ⟨_, (.binOp _ _ _ _ _), _, _, _, _⟩ _ _ _; first | (refine zt_rd (by first | (exact want_none) | (exact want_L rfl)) rfl (by decide) (fun _ hS => r_cmpB (r := true) rfl rfl rfl (iff_of_true rfl (by omega))) ?_) | (refine zt_rd (by first | (exact want_none) | (exact want_L rfl)) rfl (by decide) (fun _ hS => r_cmpB (r := false) rfl rfl rfl (iff_of_false Bool.false_ne_true (by omega))) ?_)) | (show ZT _ _ _ _ _ _ _ ⟨_, _, _, _, _, some _⟩ _ _ _; (refine zt_skip rfl ?_)))) | (show ZS _ _ _ _ _ (.all1 _ _) _ _ _; (refine zs_alone rfl ?_; first | (show ZA _ _ _ _ _ _ _ ⟨_, (.move _), _, _, _, _⟩ _ _ _; (refine za_pure rfl ?_)) | (show ZA _ _ _ _ _ _ _ ⟨_, (.assign _), _, _, _, _⟩ _ _ _; (refine za_pure rfl ?_)) | (show ZA _ _ _ _ _ _ _ ⟨_, (.nilCheck _), _, _, _, _⟩ _ _ _; (refine za_pure rfl ?_)) | (show ZA _ _ _ _ _ _ _ ⟨_, (.pick _ _ _), _, _, _, _⟩ _ _ _; (refine za_pure rfl ?_)) | (show ZA _ _ _ _ _ _ _ ⟨_, (.extract _ _), _, _, _, _⟩ _ _ _; (refine za_pure rfl ?_)) | (show ZA _ _ _ _ _ _ _ ⟨_, (.unOp .not _ _), _, _, _, _⟩ _ _ _; (refine za_pure rfl ?_)) | (show ZA _ _ _ _ _ _ _ ⟨_, _, _, _, _, some _⟩ _ _ _; (refine za_skip rfl ?_)))) | (show ZS _ _ _ _ _ (.plain _ _) _ _ _; (refine zs_plainL rfl rfl ?_)) | (show ZS _ _ _ _ _ .fin _ _ _; (refine zs_fin ?_))))))
  have hlt1 := hb1.lt
  rcases A with _ | ad
  · have hl0 : l = [] := by
      rcases hO.2 with ⟨hv, h0⟩ | ⟨g, cap, cur, hv, _⟩
      · exact List.eq_nil_of_length_eq_zero h0
      · cases hv
    subst hl0
    refine zs_run rfl (by first | exact want_none | exact want_L rfl) rfl (by decide) (v := .pointer none) (w' := w1) (fun X hX => by simp [execOp, resolve, invoke, builtin, hX.ev (x := .tmp 6) rfl, Lib.run_unsafeSliceData_nil]) hc1 ?_
    refine zs_run rfl (by first | exact want_none | exact want_L rfl) rfl (by decide) (v := .string .empty) (w' := w1) (fun X hX => by
      have := Lib.run_unsafeString_none (P := Try.prog) w1 72 3 9 none
      simp [execOp, resolve, invoke, builtin, hX.ev (x := .tmp 7) rfl, hX.ev (x := .tmp 12) rfl, this]) hc1 ?_
    refine zs_take rfl (zt_pure rfl ?_)
    refine zs_fin ?_
    refine zk_seq ?_
    refine zc_ret ?_
    exact zk_ret1 (.inr rfl) rfl rfl ⟨rfl, hC1.mono (fun k _ hk => hk.elim)⟩
  · have hown := hO1
    obtain ⟨g, had⟩ : ∃ g, ad = ⟨g, 0, none⟩ := by
      rcases hO.2 with ⟨hv, h0⟩ | ⟨g, cap, cur, hv, _⟩
      · cases hv
      · cases hv; exact ⟨g, rfl⟩
    subst had
    obtain ⟨cur, hg, hlc, hcm, hcs, hcells⟩ := own_cells hO1 rfl
    obtain ⟨hBg, _⟩ := own_ge hO1 g rfl
    have hgb : b ≠ g := fun he => by
      subst he
      have h2 : Blk w1 b 5 cur.toList := by simpa [Blk] using hg
      exact h2.ne hb1 (Ne.symm hT.ne5) rfl
    by_cases hl0 : l = []
    · subst hl0
      by_cases hc0 : c = 0
      · subst hc0
        have hS2 : (w1.alloc (.view ⟨g, 0, none⟩ 5)).cell? ⟨b, 1, none⟩ = some (.slice (some ⟨g, 0, none⟩) 0 0) := (alloc_cell _ _ _ hlt1).trans hc1
        refine zs_run rfl (by first | exact want_none | exact want_L rfl) rfl (by decide) (v := .pointer (some ⟨w1.heap.size, 0, none⟩)) (w' := w1.alloc (.view ⟨g, 0, none⟩ 5)) (fun X hX => by
          have := Lib.run_unsafeSliceData_zero (P := Try.prog) w1 #[54] 72 5 ZP.u72.eq ⟨g, 0, none⟩ 0 (5, cur.size) (by simp [World.shape?, hg])
          simp [execOp, resolve, invoke, builtin, hX.ev (x := .tmp 6) rfl, this]) hS2 ?_
        refine zs_run rfl (by first | exact want_none | exact want_L rfl) rfl (by decide) (v := .string .empty) (w' := w1.alloc (.view ⟨g, 0, none⟩ 5)) (fun X hX => by
          have := Lib.run_unsafeString_none (P := Try.prog) (w1.alloc (.view ⟨g, 0, none⟩ 5)) 72 3 9 (some ⟨w1.heap.size, 0, none⟩)
          simp [execOp, resolve, invoke, builtin, hX.ev (x := .tmp 7) rfl, hX.ev (x := .tmp 12) rfl, this]) hS2 ?_
        refine zs_take rfl (zt_pure rfl ?_)
        refine zs_fin ?_
        refine zk_seq ?_
        refine zc_ret ?_
        exact zk_ret1 (.inr rfl) rfl rfl ⟨rfl, (hC1.mono (fun k _ hk => hk.elim)).trans (Chg.alloc1 w1 _) (fun _ _ h => h.elim)⟩
      · refine zs_run rfl (by first | exact want_none | exact want_L rfl) rfl (by decide) (v := .pointer (some ⟨g, 0, none⟩)) (w' := w1) (fun X hX => by
          have := Lib.run_unsafeSliceData_row (P := Try.prog) w1 #[54] 72 ⟨g, 0, none⟩ 0 c hc0
          simp [execOp, resolve, invoke, builtin, hX.ev (x := .tmp 6) rfl, this]) hc1 ?_
        refine zs_run rfl (by first | exact want_none | exact want_L rfl) rfl (by decide) (v := .string .empty) (w' := w1) (fun X hX => by
          have := Lib.run_unsafeString_none (P := Try.prog) w1 72 3 9 (some ⟨g, 0, none⟩)
          simp [execOp, resolve, invoke, builtin, hX.ev (x := .tmp 7) rfl, hX.ev (x := .tmp 12) rfl, this]) hc1 ?_
        refine zs_take rfl (zt_pure rfl ?_)
        refine zs_fin ?_
        refine zk_seq ?_
        refine zc_ret ?_
        exact zk_ret1 (.inr rfl) rfl rfl ⟨rfl, hC1.mono (fun k _ hk => hk.elim)⟩
    · have hln : l.length ≠ 0 := fun h => hl0 (List.eq_nil_of_length_eq_zero h)
      refine zs_run rfl (by first | exact want_none | exact want_L rfl) rfl (by decide) (v := .pointer (some ⟨g, 0, none⟩)) (w' := w1) (fun X hX => by
        have := Lib.run_unsafeSliceData_row (P := Try.prog) w1 #[54] 72 ⟨g, 0, none⟩ l.length c (by omega)
        simp [execOp, resolve, invoke, builtin, hX.ev (x := .tmp 6) rfl, this]) hc1 ?_
      have hS2 : (w1.freeze ⟨g, 0, none⟩ l.length).cell? ⟨b, 1, none⟩ = some (.slice (some ⟨g, 0, none⟩) l.length c) := (freeze_cell w1 g l.length b hgb 1).trans hc1
      refine zs_run rfl (by first | exact want_none | exact want_L rfl) rfl (by decide) (v := .string (bs l)) (w' := w1.freeze ⟨g, 0, none⟩ l.length) (fun X hX => by
        have := Lib.run_unsafeString_row (P := Try.prog) w1 72 3 9 5 ZP.u72.eq (by kernel_rfl) g cur.size (by simp [World.shape?, hg]) l hl0 (by omega) (by unfold maxLen at hcm; omega) (fun j x hj => by rw [addr_add, Nat.zero_add]; exact hcells j x hj)
        simp [execOp, resolve, invoke, builtin, hX.ev (x := .tmp 7) rfl, hX.ev (x := .tmp 12) rfl, this, bs]) hS2 ?_
      refine zs_take rfl (zt_pure rfl ?_)
      refine zs_fin ?_
      refine zk_seq ?_
      refine zc_ret ?_
      exact zk_ret1 (.inr rfl) rfl rfl ⟨rfl, (hC1.mono (fun k _ hk => hk.elim)).trans (Chg.freeze1 w1 g _) (fun i hi h => by subst h; exact .inr (own_ge hO i rfl))⟩
end
end Go.Proofs.Ytbcmiijollpgeaa.T
