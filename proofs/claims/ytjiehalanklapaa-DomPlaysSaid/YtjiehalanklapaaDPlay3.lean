import Derived.Test.YtjiehalanklapaaDPlay2
/- A call of both Docs; a call with numbers of nodes that there are. -/
namespace Go.Proofs.Ytjiehalanklapaa.D
open Go Go.Z Go.Proofs
set_option linter.unusedVariables false
def opV (K A B C : Int) (s : ByteArray) : Value := .agg #[.int .i64 K, .int .i64 A, .int .i64 B, .int .i64 C, .string s]
def GT (b1 n : Nat) : Nat → Value → World → Prop
  | 0, v, _ => v = .pointer (some ⟨b1, 1, none⟩)
  | 1, v, _ => ∃ z : Int, v = .int .i64 z
  | 2, v, _ => v = .int .i64 n
  | 3, v, _ => v = .int .i64 ((n : Int) + 1)
  | 4, v, _ => ∃ z : Int, v = .int .i64 z
  | 5, v, _ => v = .pointer (some ⟨b1, 2, none⟩)
  | 6, v, _ => ∃ z : Int, v = .int .i64 z
  | 7, v, _ => v = .int .i64 n
  | 8, v, _ => v = .int .i64 ((n : Int) + 2)
  | 9, v, _ => ∃ z : Int, v = .int .i64 z ∧ 0 ≤ z ∧ z ≤ (n : Int) + 2
  | 10, v, _ => ∃ z : Int, v = .int .i64 z
  | 11, v, _ => v = .pointer (some ⟨b1, 1, none⟩)
  | 13, v, _ => v = .pointer (some ⟨b1, 2, none⟩)
  | _, _, _ => True
theorem GT.any {b1 n : Nat} {w w' : World} : ∀ j v, GT b1 n j v w → GT b1 n j v w'
  | 0, v, h => h
  | 1, v, h => h
  | 2, v, h => h
  | 3, v, h => h
  | 4, v, h => h
  | 5, v, h => h
  | 6, v, h => h
  | 7, v, h => h
  | 8, v, h => h
  | 9, v, h => h
  | 10, v, h => h
  | 11, v, h => h
  | 12, v, h => h
  | 13, v, h => h
  | 14, v, h => h
  | _ + 15, _, _ => trivial
structure TT (b1 : Nat) (K C : Int) (s : ByteArray) (w0 w : World) : Prop where
  chg : Chg w0 w (· = b1)
  blk : ∃ A B : Int, Blk w b1 59 [.int .i64 K, .int .i64 A, .int .i64 B, .int .i64 C, .string s]
theorem TT.no {b1 : Nat} {K C : Int} {s : ByteArray} {w0 w w' : World} (h : TT b1 K C s w0 w) (hc : Chg w w' No) : TT b1 K C s w0 w' := by
  obtain ⟨A, B, hb⟩ := h.blk
  exact ⟨h.chg.no hc, A, B, hb.no hc⟩
set_option maxRecDepth 100000 in
set_option maxHeartbeats 16000000 in
theorem tame_calls {w : World} (K A B C : Int) (s : ByteArray) (n : Nat) (hn : n ≤ 100000) :
    Calls Try.prog 36 [.agg #[.int .i64 K, .int .i64 A, .int .i64 B, .int .i64 C, .string s], .int .i64 n].toArray w fun e w' => (∃ A' B' C' : Int, e = .returned (.agg #[.int .i64 K, .int .i64 A', .int .i64 B', .int .i64 C', .string s])) ∧ Chg w w' No := by
  refine calls_zc (n := 30) (f := 36) (fn := Try.f36) Try.func36 rfl rfl (by simp) ?_
  refine zc_seq ?_
  refine zc_region ?_
  refine z_box (by first | exact want_none | exact want_L rfl) (by decide) rfl (fun w1 b1 hN1 => ?_)
  have hb1 : Blk w1 b1 59 [.int .i64 K, .int .i64 A, .int .i64 B, .int .i64 C, .string s] := hN1.blk
  skip
  refine z_alloc (by first | exact want_none | exact want_L rfl) (by decide) (fun w2 b2 hN2 => ?_)
  have hb2 : Blk w2 b2 59 [.int .i64 0, .int .i64 0, .int .i64 0, .int .i64 0, .string ⟨#[]⟩] := hN2.blk
  have hb12 := hb1.no hN2.chg
  have hne : b1 ≠ b2 := by have := hb1.lt; have := hN2.at_; omega
  refine zl_nil ?_
  refine zk_seq ?_
  refine zc_seq ?_
  refine zc_drawS (GT b1 n) (fun _ => 15) (fun _ w' => TT b1 K C s w2 w') [(1, .int .i64 n), (2, .pointer (some ⟨b1, 0, none⟩)), (4, .pointer (some ⟨b2, 0, none⟩))] (by rfl) (by kernel_rfl) (by kernel_rfl) ⟨rfl, rfl, rfl, trivial⟩ (fun w' hc _ => ⟨hc.mono (fun _ _ h => h.elim), A, B, hb12.no hc⟩) ?_ ?_
  · intro i' hi' b a y hbsz hbi hcl hwt hL
    obtain ⟨hok', hTL, hd⟩ := hL
    have hi15 : i' < 15 := hi'
    have g : ∀ j, waits _ i' j = true → ∀ dj, dstOf _ j = some dj → ∃ v, a.tmps[dj]? = some v ∧ GT b1 n j v y := fun j hw dj hdj => by
      obtain ⟨v, h1, h2⟩ := hd j hw dj hdj
      exact ⟨v, h1, h2 (fun hh => hh (.inr (Nat.le_refl _)))⟩
    obtain ⟨A1, B1, hb⟩ := hTL.blk
    match i', hi15 with
    | 0, _ =>
      exact wo_run rfl (by first | exact want_none | exact want_L rfl) rfl hok' (r_fa rfl) ⟨gS (d0 := 5) rfl (show _ = Value.pointer (some ⟨b1, 1, none⟩) from rfl), gT (d0 := 5) rfl, hTL, fun j u _ _ h => GT.any j u h⟩
    | 1, _ =>
      obtain ⟨v, hv, e1⟩ := g 0 (by kernel_rfl) _ rfl
      have e1 : v = .pointer (some ⟨b1, 1, none⟩) := e1
      subst e1
      exact wo_run rfl (by first | exact want_none | exact want_L rfl) rfl (hok'.cons hv) (r_loadB rfl hb (by rfl)) ⟨gS (d0 := 6) rfl (show ∃ z : Int, _ = Value.int .i64 z from ⟨_, rfl⟩), gT (d0 := 6) rfl, hTL, fun j u _ _ h => GT.any j u h⟩
    | 2, _ =>
      exact wo_pure rfl hok' rfl ⟨gS (d0 := 7) rfl (show _ = Value.int .i64 n from rfl), gT (d0 := 7) rfl, hTL, fun j u _ _ h => GT.any j u h⟩
    | 3, _ =>
      obtain ⟨v, hv, e1⟩ := g 2 (by kernel_rfl) _ rfl
      have e1 : v = .int .i64 n := e1
      subst e1
      exact wo_run rfl (by first | exact want_none | exact want_L rfl) rfl (hok'.cons hv) (r_add rfl rfl (by omega) (by omega)) ⟨gS (d0 := 8) rfl (show _ = Value.int .i64 ((n : Int) + 1) from rfl), gT (d0 := 8) rfl, hTL, fun j u _ _ h => GT.any j u h⟩
    | 4, _ =>
      obtain ⟨v1, hv1, z1, e1⟩ := g 1 (by kernel_rfl) _ rfl
      obtain ⟨v2, hv2, e2⟩ := g 3 (by kernel_rfl) _ rfl
      have e2 : v2 = .int .i64 ((n + 1 : Nat) : Int) := e2
      subst e1; subst e2
      refine wo_call rfl (by first | exact want_none | exact want_L rfl) rfl ((hok'.cons hv1).cons hv2) rfl (within_calls (a := z1) (n := n + 1) (by omega) (by omega)) ?_
      rintro _ y' ⟨rfl, hy⟩
      obtain rfl := hy.symm
      exact ⟨_, rfl, ⟨gS (d0 := 9) rfl (show ∃ z : Int, _ = Value.int .i64 z from ⟨_, rfl⟩), gT (d0 := 9) rfl, hTL, fun j u _ _ h => GT.any j u h⟩⟩
    | 5, _ =>
      exact wo_run rfl (by first | exact want_none | exact want_L rfl) rfl hok' (r_fa rfl) ⟨gS (d0 := 10) rfl (show _ = Value.pointer (some ⟨b1, 2, none⟩) from rfl), gT (d0 := 10) rfl, hTL, fun j u _ _ h => GT.any j u h⟩
    | 6, _ =>
      obtain ⟨v, hv, e1⟩ := g 5 (by kernel_rfl) _ rfl
      have e1 : v = .pointer (some ⟨b1, 2, none⟩) := e1
      subst e1
      exact wo_run rfl (by first | exact want_none | exact want_L rfl) rfl (hok'.cons hv) (r_loadB rfl hb (by rfl)) ⟨gS (d0 := 11) rfl (show ∃ z : Int, _ = Value.int .i64 z from ⟨_, rfl⟩), gT (d0 := 11) rfl, hTL, fun j u _ _ h => GT.any j u h⟩
    | 7, _ =>
      exact wo_pure rfl hok' rfl ⟨gS (d0 := 12) rfl (show _ = Value.int .i64 n from rfl), gT (d0 := 12) rfl, hTL, fun j u _ _ h => GT.any j u h⟩
    | 8, _ =>
      obtain ⟨v, hv, e1⟩ := g 7 (by kernel_rfl) _ rfl
      have e1 : v = .int .i64 n := e1
      subst e1
      exact wo_run rfl (by first | exact want_none | exact want_L rfl) rfl (hok'.cons hv) (r_add rfl rfl (by omega) (by omega)) ⟨gS (d0 := 13) rfl (show _ = Value.int .i64 ((n : Int) + 2) from rfl), gT (d0 := 13) rfl, hTL, fun j u _ _ h => GT.any j u h⟩
    | 9, _ =>
      obtain ⟨v1, hv1, z1, e1⟩ := g 6 (by kernel_rfl) _ rfl
      obtain ⟨v2, hv2, e2⟩ := g 8 (by kernel_rfl) _ rfl
      have e2 : v2 = .int .i64 ((n + 2 : Nat) : Int) := e2
      subst e1; subst e2
      refine wo_call rfl (by first | exact want_none | exact want_L rfl) rfl ((hok'.cons hv1).cons hv2) rfl (within_calls (a := z1) (n := n + 2) (by omega) (by omega)) ?_
      rintro _ y' ⟨rfl, hy⟩
      obtain rfl := hy.symm
      have hm0 := Int.emod_nonneg z1 (show ((n + 2 : Nat) : Int) ≠ 0 by omega)
      have hm1 := Int.emod_lt_of_pos z1 (show (0 : Int) < ((n + 2 : Nat) : Int) by omega)
      exact ⟨_, rfl, ⟨gS (d0 := 14) rfl (show ∃ z : Int, _ = Value.int .i64 z ∧ 0 ≤ z ∧ z ≤ (n : Int) + 2 from ⟨_, rfl, hm0, by omega⟩), gT (d0 := 14) rfl, hTL, fun j u _ _ h => GT.any j u h⟩⟩
    | 10, _ =>
      obtain ⟨v1, hv1, z1, e1, e2, e3⟩ := g 9 (by kernel_rfl) _ rfl
      subst e1
      exact wo_run rfl (by first | exact want_none | exact want_L rfl) rfl (hok'.cons hv1) (r_sub rfl rfl (by omega) (by omega)) ⟨gS (d0 := 15) rfl (show ∃ z : Int, _ = Value.int .i64 z from ⟨_, rfl⟩), gT (d0 := 15) rfl, hTL, fun j u _ _ h => GT.any j u h⟩
    | 11, _ =>
      exact wo_run rfl (by first | exact want_none | exact want_L rfl) rfl hok' (r_fa rfl) ⟨gS (d0 := 16) rfl (show _ = Value.pointer (some ⟨b1, 1, none⟩) from rfl), gT (d0 := 16) rfl, hTL, fun j u _ _ h => GT.any j u h⟩
    | 12, _ =>
      obtain ⟨v, hv, e1⟩ := g 11 (by kernel_rfl) _ rfl
      have e1 : v = .pointer (some ⟨b1, 1, none⟩) := e1
      subst e1
      obtain ⟨u, hu, z1, e2⟩ := g 4 (by kernel_rfl) _ rfl
      subst e2
      refine wo_store rfl (by first | exact want_none | exact want_L rfl) ((hok'.cons hv).cons hu) rfl rfl (by rfl) hb (by simp [Value.cells]) (by simp [Value.cells, Value.oneCell']) (fun y' hU => ?_)
      exact ⟨gN rfl, fun _ => rfl, ⟨hTL.chg.trans hU.chg (fun k _ hk => hk), _, _, hU.blk⟩, fun j u _ _ h => GT.any j u h⟩
    | 13, _ =>
      exact wo_run rfl (by first | exact want_none | exact want_L rfl) rfl hok' (r_fa rfl) ⟨gS (d0 := 17) rfl (show _ = Value.pointer (some ⟨b1, 2, none⟩) from rfl), gT (d0 := 17) rfl, hTL, fun j u _ _ h => GT.any j u h⟩
    | 14, _ =>
      obtain ⟨v, hv, e1⟩ := g 13 (by kernel_rfl) _ rfl
      have e1 : v = .pointer (some ⟨b1, 2, none⟩) := e1
      subst e1
      obtain ⟨u, hu, z1, e2⟩ := g 10 (by kernel_rfl) _ rfl
      subst e2
      refine wo_store rfl (by first | exact want_none | exact want_L rfl) ((hok'.cons hv).cons hu) rfl rfl (by rfl) hb (by simp [Value.cells]) (by simp [Value.cells, Value.oneCell']) (fun y' hU => ?_)
      exact ⟨gN rfl, fun _ => rfl, ⟨hTL.chg.trans hU.chg (fun k _ hk => hk), _, _, hU.blk⟩, fun j u _ _ h => GT.any j u h⟩
    | k + 15, hk => omega
  · intro b a y hall hL
    obtain ⟨hok', hTL, _⟩ := hL
    obtain ⟨A1, B1, hb⟩ := hTL.blk
    refine np_zk (e := [(1, .int .i64 n), (2, .pointer (some ⟨b1, 0, none⟩)), (4, .pointer (some ⟨b2, 0, none⟩))]) ?_ hok'
    have hC0 : Chg w y No := (hN1.chg.no hN2.chg).trans hTL.chg (fun k hk he => by have := hN1.at_; omega)
    have hb2y : Blk y b2 59 [.int .i64 0, .int .i64 0, .int .i64 0, .int .i64 0, .string ⟨#[]⟩] := hb2.chg hTL.chg (fun he => hne he.symm)
    have hge1 : w.heap.size ≤ b1 := hN1.ge (Chg.refl _ No)
    have hge2 : w.heap.size ≤ b2 := by have := hN2.at_; have := hN1.chg.size; omega
    refine zk_seq ?_
    iterate 2 (refine zc_seq ?_)
    refine zc_region ?_
    refine z_fa want_none (by decide) rfl ?_
    refine z_loadB want_none (by decide) rfl (by assumption) (by rfl) ?_
    refine zl_call (by first | exact want_none | exact want_L rfl) rfl (by decide) rfl (within_calls (a := K) (n := 8) (by decide) (by decide)) ?_
    rintro _ y' ⟨rfl, hy⟩
    obtain rfl := hy.symm
    refine ⟨_, rfl, ?_⟩
    by_cases hk0 : K % (8 : Nat) = 0
    · rw [hk0]
      refine z_cmpB (r := false) want_none (by decide) rfl rfl rfl (iff_of_false Bool.false_ne_true (by omega)) ?_
      refine zl_nil ?_
      refine zk_seq ?_
      refine zc_false rfl ?_
      refine zc_skip ?_
      refine zk_seq ?_
      refine zc_seq ?_
      refine zc_region ?_
      refine z_loadAB want_none (by decide) rfl (by assumption) (by rfl) ?_
      refine z_store (by first | exact want_none | exact want_L rfl) rfl rfl rfl (by assumption) (by first | exact Nat.le_refl _ | simp [Value.cells]) (by simp [Value.cells, Value.oneCell']) (fun y3 hU3 => ?_)
      have hb3 : Blk y3 b2 59 [.int .i64 K, .int .i64 A1, .int .i64 B1, .int .i64 C, .string s] := hU3.blk
      refine zl_nil ?_
      refine zk_seq ?_
      refine zc_ret ?_
      exact zk_retC (.inr rfl) rfl rfl hb3 rfl ⟨⟨_, _, _, rfl⟩, hC0.upd hU3 hge2⟩
    · refine z_cmpB (r := true) want_none (by decide) rfl rfl rfl (iff_of_true rfl (by omega)) ?_
      refine zl_nil ?_
      refine zk_seq ?_
      refine zc_true rfl ?_
      refine zc_region ?_
      refine z_fa want_none (by decide) rfl ?_
      refine z_loadB want_none (by decide) rfl (by assumption) (by rfl) ?_
      refine zl_pureL rfl ?_
      refine z_add want_none (by decide) rfl rfl (by omega) (by omega) ?_
      refine zl_call (by first | exact want_none | exact want_L rfl) rfl (by decide) rfl (within_calls (a := C) (n := n + 2) (by omega) (by omega)) ?_
      rintro _ y' ⟨rfl, hy⟩
      obtain rfl := hy.symm
      refine ⟨_, rfl, ?_⟩
      have hm0 := Int.emod_nonneg C (show ((n + 2 : Nat) : Int) ≠ 0 by omega)
      have hm1 := Int.emod_lt_of_pos C (show (0 : Int) < ((n + 2 : Nat) : Int) by omega)
      refine z_sub want_none (by decide) rfl rfl (by omega) (by omega) ?_
      refine z_fa want_none (by decide) rfl ?_
      refine z_store (by first | exact want_none | exact want_L rfl) rfl rfl rfl (by assumption) (by first | exact Nat.le_refl _ | simp [Value.cells]) (by simp [Value.cells, Value.oneCell']) (fun y3 hU3 => ?_)
      have hb3 : Blk y3 b1 59 [.int .i64 K, .int .i64 A1, .int .i64 B1, .int .i64 (C % ((n + 2 : Nat) : Int) - 1), .string s] := hU3.blk
      have hb23 := hb2y.chg hU3.chg (fun he => hne he.symm)
      refine zl_nil ?_
      refine zk_seq ?_
      refine zc_seq ?_
      refine zc_region ?_
      refine z_loadAB want_none (by decide) rfl (by assumption) (by rfl) ?_
      refine z_store (by first | exact want_none | exact want_L rfl) rfl rfl rfl (by assumption) (by first | exact Nat.le_refl _ | simp [Value.cells]) (by simp [Value.cells, Value.oneCell']) (fun y4 hU4 => ?_)
      have hb4 : Blk y4 b2 59 [.int .i64 K, .int .i64 A1, .int .i64 B1, .int .i64 (C % ((n + 2 : Nat) : Int) - 1), .string s] := hU4.blk
      refine zl_nil ?_
      refine zk_seq ?_
      refine zc_ret ?_
      exact zk_retC (.inr rfl) rfl rfl hb4 rfl ⟨⟨_, _, _, rfl⟩, (hC0.upd hU3 hge1).upd hU4 hge2⟩

end Go.Proofs.Ytjiehalanklapaa.D
