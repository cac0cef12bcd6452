import Derived.Test.YtmhbdalemgmfcaaZP
import Derived.Test.YtmhbdalemgmfcaaShelf
/- A builder of strings: what its calls write. -/
namespace Go.Proofs.Ytmhbdalemgmfcaa.T
open Go Go.Z Go.Proofs
set_option linter.unusedVariables false
/-- a builder in block b that holds the bytes l; what is its own begins at B -/
abbrev Bd (w : World) (B b : Nat) (l : List UInt8) : Prop := Lib.IsBuilder 39 5 B b (cellsB l) w
theorem Chg.ofB {w w' : World} {B : Nat} (h : RowKit.Below B w w') : Chg w w' (fun k => B ≤ k) := ⟨h.os, h.tape, h.output, h.size, fun k _ hn => h.block k (by omega)⟩
theorem Chg.lift {w0 w w' : World} {B : Nat} (h0 : Chg w0 w No) (hB : w0.heap.size ≤ B) (h : Chg w w' (fun k => B ≤ k)) : Chg w0 w' No := h0.trans h (fun i hi hb => by omega)
theorem own_of {w : World} {B e sz m : Nat} {v : Value} {xs : List Value} (h : w.ownsRow B e sz v m xs) (h1 : ∀ u ∈ xs, u.oneCell' = true) : Own w e sz v m xs ∧ ∀ k, v.ownBlock = some k → B ≤ k := by
  obtain ⟨a1, a2⟩ := h
  refine ⟨⟨⟨a1, ?_⟩, h1⟩, ?_⟩
  · rcases a2 with h | ⟨g, cap, cur, e1, e2, e3⟩
    · exact .inl h
    · exact .inr ⟨g, cap, cur, e1, Nat.zero_le _, e3⟩
  · intro k hk
    rcases a2 with ⟨rfl, _⟩ | ⟨g, cap, cur, rfl, e2, e3⟩
    · cases hk
    · simp only [Value.ownBlock, Option.some.injEq] at hk; subst hk; exact e2
theorem own_to {w : World} {B e sz m : Nat} {v : Value} {xs : List Value} (h : Own w e sz v m xs) (hk : ∀ k, v.ownBlock = some k → B ≤ k) : w.ownsRow B e sz v m xs := by
  obtain ⟨⟨a1, a2⟩, _⟩ := h
  refine ⟨a1, ?_⟩
  rcases a2 with h | ⟨g, cap, cur, rfl, e2, e3⟩
  · exact .inl h
  · exact .inr ⟨g, cap, cur, rfl, hk g rfl, e3⟩
theorem cellsB_one (l : List UInt8) : ∀ u ∈ cellsB l, u.oneCell' = true := by
  intro u hu
  simp only [cellsB, List.mem_map] at hu
  obtain ⟨b, _, rfl⟩ := hu
  rfl
theorem cellsB_app (l r : List UInt8) : cellsB (l ++ r) = cellsB l ++ cellsB r := by simp [cellsB]
theorem cellsB_len (l : List UInt8) : (cellsB l).length = l.length := by simp [cellsB]
theorem Bd.mk' {w : World} {B b : Nat} {v : Value} {l : List UInt8} (hB : B ≤ b) (hb : Blk w b 39 [.pointer (some ⟨b, 0, none⟩), v]) (hO : Own w 5 1 v l.length (cellsB l)) (hv : ∀ k, v.ownBlock = some k → B ≤ k) : Bd w B b l := by
  refine .inr ⟨hB, v, hb, ?_, fun he => hO.ne he hb (by decide) rfl⟩
  rw [cellsB_len]
  exact own_to hO hv
theorem Bd.fresh {w : World} {B b : Nat} (hB : B ≤ b) (hb : Blk w b 39 [.pointer none, .slice none 0 0]) : Bd w B b [] :=
  .inl ⟨hB, .slice none 0 0, hb, World.ownsRow_nil _ _ _ _, by simp [Value.ownBlock]⟩
theorem Bd.no {w w' : World} {B b : Nat} {l : List UInt8} (h : Bd w B b l) (hc : Chg w w' No) : Bd w' B b l := by
  have key : ∀ p, Lib.BuilderAt 39 5 B b p (cellsB l) w → Lib.BuilderAt 39 5 B b p (cellsB l) w' := by
    rintro p ⟨hB, v, hb, hO, hne⟩
    have hb' : Blk w b 39 [p, v] := hb
    obtain ⟨h1, h2⟩ := own_of hO (cellsB_one l)
    exact ⟨hB, v, hb'.no hc, own_to (h1.no hc) h2, hne⟩
  rcases h with h | h
  · exact .inl (key _ h)
  · exact .inr (key _ h)
theorem copy_calls {w : World} {B b : Nat} {l : List UInt8} (h : Bd w B b l) : Calls Try.prog 44 [.pointer (some ⟨b, 0, none⟩)].toArray w fun e w' => e = .returned (.tuple #[]) ∧ Lib.BuilderAt 39 5 B b (.pointer (some ⟨b, 0, none⟩)) (cellsB l) w' ∧ RowKit.Below B w w' :=
  Any.Builder_copyCheck { Try.lays156 with } Try.Builder_Extra_156.toX72 B b (cellsB l) w h
theorem ws_calls {w : World} {B b : Nat} {l : List UInt8} (r : List UInt8) (h : Bd w B b l) (hl : l.length + r.length ≤ 1000000) (hB : B ≤ w.heap.size) :
    Calls Try.prog 38 [.pointer (some ⟨b, 0, none⟩), .string (bs r)].toArray w fun e w' => e = .returned (.tuple #[.int .i64 r.length, .nilIface]) ∧ Bd w' B b (l ++ r) ∧ Chg w w' (fun k => B ≤ k) := by
  refine (Any.Builder_WriteString { Try.lays156 with } Try.Builder_Extra_156 B b (cellsB l) (bs r) w h (by rw [cellsB_len, bs_size]; omega) hB).mono ?_
  rintro e w' ⟨rfl, h1, h2⟩
  refine ⟨by rw [bs_size], .inr ?_, Chg.ofB h2⟩
  rw [cellsB_app]
  exact h1
theorem str_calls {w : World} {B b : Nat} {l : List UInt8} (h : Bd w B b l) (hB : B ≤ w.heap.size) : Calls Try.prog 35 [.pointer (some ⟨b, 0, none⟩)].toArray w fun e w' => e = .returned (.string (bs l)) ∧ Chg w w' (fun k => B ≤ k) := by
  refine (Try.Builder_String_any B b l w h hB).mono ?_
  rintro e w' ⟨rfl, h2⟩
  exact ⟨rfl, Chg.ofB h2⟩
set_option maxHeartbeats 2000000 in
theorem wb_calls {w : World} {B b : Nat} {l : List UInt8} (c : UInt8) (h : Bd w B b l) (hl : l.length ≤ 1000000) (hB : B ≤ w.heap.size) :
    Calls Try.prog 34 [.pointer (some ⟨b, 0, none⟩), .int .u8 c.toNat].toArray w fun e w' => e = .returned .nilIface ∧ Bd w' B b (l ++ [c]) ∧ Chg w w' (fun k => B ≤ k) := by
  refine calls_zc (n := 17) (f := 34) (fn := Try.f34) Try.func34 rfl rfl (by simp) ?_
  refine zc_seq ?_
  refine zc_region ?_
  refine zl_pureL rfl ?_
  refine zl_nil ?_
  refine zk_seq ?_
  refine zc_seq ?_
  refine zc_region ?_
  refine zl_pureL rfl ?_
  refine zl_call (by first | exact want_none | exact want_L rfl) rfl (by decide) rfl (copy_calls h) ?_
  rintro _ w1 ⟨rfl, ⟨hBb, v, hbk, hown, hne⟩, hB1⟩
  refine ⟨_, rfl, ?_⟩
  have hC1 := Chg.ofB hB1
  rw [cellsB_len] at hown
  obtain ⟨hO, hvB⟩ := own_of hown (cellsB_one l)
  have hb1 : Blk w1 b 39 [.pointer (some ⟨b, 0, none⟩), v] := hbk
  refine zl_nil ?_
  refine zk_seq ?_
  refine zc_seq ?_
  refine zc_region ?_
  iterate 3 (refine zl_pureL rfl ?_)
  refine z_fa want_none (by decide) rfl ?_
  refine z_loadB want_none (by decide) rfl (by assumption) (by rfl) ?_
  refine zl_pureL rfl ?_
  refine z_bs1 (by first | exact want_none | exact want_L rfl) (by decide) rfl (by rfl) (by rfl) (by decide) (by decide) (fun w2 b2 hN2 => ?_)
  have hC2 := hC1.no hN2.chg
  have hr2 : RdS w2 5 1 (.slice (some ⟨b2, 0, none⟩) 1 1) 1 [.int .u8 c.toNat] := RdS.new hN2 rfl (fun u hu => by simp only [List.mem_singleton] at hu; subst hu; rfl)
  refine z_appendO (by rfl) (by decide) (by first | exact want_none | exact want_L rfl) (by decide) rfl rfl (hO.no hN2.chg) hr2 (by omega) (by omega) (fun v3 w3 hO3 hC3 hr3 => ?_)
  have hb3 := (hb1.no hN2.chg).chg hC3 hne
  have hC23 : Chg w w3 (fun k => B ≤ k) := hC2.trans hC3 (fun i hi he => hvB i he)
  have hv3 : ∀ k, v3.ownBlock = some k → B ≤ k := fun k hk => by
    rcases hr3 with h1 | ⟨q, h1, h2⟩
    · exact hvB k (h1 ▸ hk)
    · rw [hk] at h1; cases h1; have := hC2.size; omega
  have hne3 : v3.ownBlock ≠ some b := fun he => hO3.ne he hb3 (by decide) rfl
  obtain ⟨A3, c3, rfl, hc3⟩ := hO3.rd.form
  refine zl_pureL rfl ?_
  refine z_fa want_none (by decide) rfl ?_
  refine z_store (by first | exact want_none | exact want_L rfl) rfl rfl rfl (by assumption) (by first | exact Nat.le_refl _ | simp [Value.cells]) (by simp [Value.cells, Value.oneCell']) (fun w4 hU4 => ?_)
  refine zl_nil ?_
  refine zk_seq ?_
  refine zc_seq ?_
  refine zc_region ?_
  refine zl_pureL rfl ?_
  refine zl_nil ?_
  refine zk_seq ?_
  refine zc_ret ?_
  refine zk_ret1 (.inr rfl) rfl rfl ⟨rfl, Bd.mk' hBb hU4.blk ?_ hv3, hC23.trans hU4.chg (fun i hi he => by subst he; exact hBb)⟩
  have := hO3.chg hU4.chg (fun k hk he => hne3 (he ▸ hk))
  rw [cellsB_app]
  simpa [cellsB] using this
set_option maxHeartbeats 2000000 in
theorem wr_calls {w0 w : World} {B b : Nat} {l r : List UInt8} {vr : Value} (h : Bd w B b l) (hl : l.length + r.length ≤ 1000000) (hB : B ≤ w.heap.size) (hr : RB w0 vr r) (hr0 : 0 < r.length) (hC0 : Chg w0 w No) (hB0 : w0.heap.size ≤ B) :
    Calls Try.prog 37 [.pointer (some ⟨b, 0, none⟩), vr].toArray w fun e w' => e = .returned (.tuple #[.int .i64 r.length, .nilIface]) ∧ Bd w' B b (l ++ r) ∧ Chg w w' (fun k => B ≤ k) := by
  refine calls_zc (n := 19) (f := 37) (fn := Try.f37) Try.func37 rfl rfl (by simp) ?_
  refine zc_seq ?_
  refine zc_region ?_
  iterate 2 (refine zl_pureL rfl ?_)
  refine zl_nil ?_
  refine zk_seq ?_
  refine zc_seq ?_
  refine zc_region ?_
  refine zl_pureL rfl ?_
  refine zl_call (by first | exact want_none | exact want_L rfl) rfl (by decide) rfl (copy_calls h) ?_
  rintro _ w1 ⟨rfl, ⟨hBb, v, hbk, hown, hne⟩, hB1⟩
  refine ⟨_, rfl, ?_⟩
  have hC1 := Chg.ofB hB1
  rw [cellsB_len] at hown
  obtain ⟨hO, hvB⟩ := own_of hown (cellsB_one l)
  have hb1 : Blk w1 b 39 [.pointer (some ⟨b, 0, none⟩), v] := hbk
  obtain ⟨br, o, cr, rfl, hcr, hcell⟩ := (hr.no (Chg.lift hC0 hB0 hC1)).at_ 0 hr0
  refine zl_nil ?_
  refine zk_seq ?_
  refine zc_seq ?_
  refine zc_region ?_
  iterate 3 (refine zl_pureL rfl ?_)
  refine z_fa want_none (by decide) rfl ?_
  refine z_loadB want_none (by decide) rfl (by assumption) (by rfl) ?_
  refine zl_pureL rfl ?_
  refine z_append (o := o) (news := cellsB r) (by rfl) (by decide) (by first | exact want_none | exact want_L rfl) (by decide) rfl rfl hO.1 (by rw [cellsB_len, Nat.mul_one]) (fun j u hj => ?_) (cellsB_one r) (by omega) (by omega) (fun v3 w3 hO3 hC3 hr3 => ?_)
  · have hlt : j < r.length := by have := (List.getElem?_eq_some_iff.1 hj).1; rwa [cellsB_len] at this
    rw [hcell j hlt, ← cellsB_at r j hlt]; exact hj
  have hO3 : Own w3 5 1 v3 (l.length + r.length) (cellsB l ++ cellsB r) := ⟨hO3, fun u hu => by
    rcases List.mem_append.1 hu with h | h
    · exact cellsB_one l u h
    · exact cellsB_one r u h⟩
  have hb3 := hb1.chg hC3 hne
  have hC23 : Chg w w3 (fun k => B ≤ k) := hC1.trans hC3 (fun i hi he => hvB i he)
  have hv3 : ∀ k, v3.ownBlock = some k → B ≤ k := fun k hk => by
    rcases hr3 with h1 | ⟨q, h1, h2⟩
    · exact hvB k (h1 ▸ hk)
    · rw [hk] at h1; cases h1; have := hC1.size; omega
  have hne3 : v3.ownBlock ≠ some b := fun he => hO3.ne he hb3 (by decide) rfl
  obtain ⟨A3, c3, rfl, hc3⟩ := hO3.rd.form
  refine zl_pureL rfl ?_
  refine z_fa want_none (by decide) rfl ?_
  refine z_store (by first | exact want_none | exact want_L rfl) rfl rfl rfl (by assumption) (by first | exact Nat.le_refl _ | simp [Value.cells]) (by simp [Value.cells, Value.oneCell']) (fun w4 hU4 => ?_)
  refine zl_nil ?_
  refine zk_seq ?_
  refine zc_seq ?_
  refine zc_region ?_
  refine zl_pureL rfl ?_
  refine z_len want_none (by decide) rfl ?_
  iterate 2 (refine zl_pureL rfl ?_)
  refine zl_nil ?_
  refine zk_seq ?_
  refine zc_ret ?_
  refine zk_ret2 (.inr rfl) rfl rfl rfl ⟨rfl, Bd.mk' hBb hU4.blk ?_ hv3, hC23.trans hU4.chg (fun i hi he => by subst he; exact hBb)⟩
  have := hO3.chg hU4.chg (fun k hk he => hne3 (he ▸ hk))
  rw [cellsB_app, List.length_append]
  exact this
end Go.Proofs.Ytmhbdalemgmfcaa.T
