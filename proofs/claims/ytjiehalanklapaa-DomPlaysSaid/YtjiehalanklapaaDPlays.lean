import Derived.Test.YtjiehalanklapaaDPlay4
import Derived.Deep.Slices
import Derived.ProofKit
/- Whatever is called, both Docs are one: the walk of DomPlays. -/
namespace Go.Proofs.Ytjiehalanklapaa.D
open Go Go.Z Go.Proofs Go.ChangeShapes Go.WideShapes
set_option linter.unusedVariables false
theorem bs_ofB (s : ByteArray) : s = bs s.data.toList := by cases s; rfl
/-- calls that are handed in -/
def OpsIn (w : World) (v : Value) : Prop := ∃ A m c, v = .slice A m c ∧ ∀ i, i < m → ∃ b o, A = some ⟨b, o, none⟩ ∧ ∃ (K A' B C : Int) (s : ByteArray), ∀ j u, [Value.int .i64 K, .int .i64 A', .int .i64 B, .int .i64 C, .string s][j]? = some u → w.cell? ⟨b, o + i * 5 + j, none⟩ = some u
theorem OpsIn.no {w w' : World} {v : Value} (h : OpsIn w v) (hc : Chg w w' No) : OpsIn w' v := by
  obtain ⟨A, m, c, hv, hx⟩ := h
  refine ⟨A, m, c, hv, fun i hi => ?_⟩
  obtain ⟨b, o, hA, K, A', B, C, s, hh⟩ := hx i hi
  exact ⟨b, o, hA, K, A', B, C, s, fun j u hj => cell_no hc (hh j u hj)⟩
set_option maxRecDepth 100000 in
theorem ops_of {H : Type} {enc : TypeId × Value → H} {W : World} {a : Option Addr} {len cap : Nat} {d : DataW H} {ps : List MemPlace} (h : DataW.Trod enc Try.prog W 0 (fun _ => true) true 55 (.slice a len cap) d ps) : OpsIn W (.slice a len cap) := by
  obtain ⟨fuel, hf⟩ := h
  rcases DataW.trod_slice Try.underlying55 hf with ⟨h0, _⟩ | ⟨x, l, c, elems, rest, n, _, h0, _, _, _, _, hlen, hel, _⟩
  · have h0 : Value.slice a len cap = .slice none 0 0 := by simpa [Value.cells] using h0
    exact ⟨none, 0, 0, h0, fun i hi => absurd hi (Nat.not_lt_zero _)⟩
  · have h0 : Value.slice a len cap = .slice (some x) l c := by simpa [Value.cells] using h0
    have elt : ∀ i, i < l → ∃ (K A' B C : Int) (s : ByteArray), ∀ j u, [Value.int .i64 K, .int .i64 A', .int .i64 B, .int .i64 C, .string s][j]? = some u → W.cell? (x.add (i * 5 + j)) = some u := fun i hi => by
      have key := hel i hi
      have hc5 : (Try.prog).cellsOf 59 = 5 := by kernel_rfl
      rw [hc5, List.getElem?_eq_getElem (by omega)] at key
      obtain ⟨cs', h1, h2⟩ := Option.bind_eq_some_iff.1 key
      obtain ⟨_, hlen', hcell⟩ := World.cells?_some h1
      obtain ⟨xs, k, _, _, _, hxl, hff⟩ := DataW.trod_struct Try.underlying59 h2
      have hxl : xs.length = 5 := hxl
      have one : ∀ {t j : Nat} {v : Value}, cs'[j]? = some v → (Try.prog).cellsOf t = 1 → j < 5 → DataW.trod enc Try.prog W 0 (fun _ => true) true k t ((cs'.drop j).take ((Try.prog).cellsOf t)) = xs[j]? → ∃ y, DataW.trod enc Try.prog W 0 (fun _ => true) true k t [v] = some y := fun {t j v} hv hc hj hg => by
        have hjl : j < cs'.length := (List.getElem?_eq_some_iff.1 hv).1
        rw [hc, List.getElem?_eq_getElem (by omega), List.drop_eq_getElem_cons hjl] at hg
        rw [List.getElem?_eq_getElem hjl] at hv
        have hv := Option.some.inj hv
        rw [← hv]
        exact ⟨_, hg⟩
      match cs', hlen' with
      | [v0, v1, v2, v3, v4], _ =>
        obtain ⟨y0, g0⟩ := one (j := 0) rfl (by kernel_rfl) (by decide) (hff 0 _ rfl)
        obtain ⟨y1, g1⟩ := one (j := 1) rfl (by kernel_rfl) (by decide) (hff 1 _ rfl)
        obtain ⟨y2, g2⟩ := one (j := 2) rfl (by kernel_rfl) (by decide) (hff 2 _ rfl)
        obtain ⟨y3, g3⟩ := one (j := 3) rfl (by kernel_rfl) (by decide) (hff 3 _ rfl)
        obtain ⟨y4, g4⟩ := one (j := 4) rfl (by kernel_rfl) (by decide) (hff 4 _ rfl)
        obtain ⟨z0, e0, _⟩ := DataW.trod_int Try.underlying3 g0
        obtain ⟨z1, e1, _⟩ := DataW.trod_int Try.underlying3 g1
        obtain ⟨z2, e2, _⟩ := DataW.trod_int Try.underlying3 g2
        obtain ⟨z3, e3, _⟩ := DataW.trod_int Try.underlying3 g3
        obtain ⟨s4, e4, _⟩ := DataW.trod_string Try.underlying9 g4
        have e0 : v0 = .int .i64 z0 := by simpa using e0
        have e1 : v1 = .int .i64 z1 := by simpa using e1
        have e2 : v2 = .int .i64 z2 := by simpa using e2
        have e3 : v3 = .int .i64 z3 := by simpa using e3
        have e4 : v4 = .string s4 := by simpa using e4
        subst e0; subst e1; subst e2; subst e3; subst e4
        have hcj : ∀ j u, [Value.int .i64 z0, .int .i64 z1, .int .i64 z2, .int .i64 z3, .string s4][j]? = some u → W.cell? (x.add (i * 5 + j)) = some u := fun j u hj => by
          have hjl : j < 5 := (List.getElem?_eq_some_iff.1 hj).1
          have := hcell j hjl
          rw [Go.Deep.add_add] at this
          rw [this, hj]
        exact ⟨z0, z1, z2, z3, s4, hcj⟩
    refine ⟨some x, l, c, h0, fun i hi => ?_⟩
    have hx : ∃ b o, x = ⟨b, o, none⟩ := by
      obtain ⟨K, A', B, C, s, h⟩ := elt 0 (by omega)
      have h := h 0 _ rfl
      obtain ⟨b, o, sp⟩ := x
      have hsp := World.cell?_spot h
      have hs : sp = none := by simpa [Addr.add] using hsp
      subst hs
      exact ⟨b, o, rfl⟩
    obtain ⟨b, o, rfl⟩ := hx
    obtain ⟨K, A', B, C, s, h⟩ := elt i hi
    refine ⟨b, o, rfl, K, A', B, C, s, fun j u hj => ?_⟩
    have := h j u hj
    rw [addr_add, ← Nat.add_assoc] at this
    exact this
set_option maxRecDepth 100000 in
set_option maxHeartbeats 16000000 in
theorem DomPlays_walk (a : Option Addr) (len cap : Nat) (raw : Bool) (w : World) (hO : OpsIn w (.slice a len cap)) :
    Calls Try.prog 9 #[.slice a len cap, .bool raw] w fun e w' => e = .returned (.bool true) ∧ RowKit.Below w.heap.size w w' := by
  show Calls Try.prog 9 [Value.slice a len cap, .bool raw].toArray w _
  refine calls_zc (n := 53) (f := 9) (fn := Try.f9) Try.func9 rfl rfl (by simp) ?_
  refine zc_seq ?_
  refine zc_region ?_
  refine zl_pureL rfl ?_
  refine zl_nil ?_
  refine zk_seq ?_
  iterate 2 (refine zc_seq ?_)
  refine zc_region ?_
  refine zl_call (by first | exact want_none | exact want_L rfl) rfl (by decide) rfl known_calls ?_
  rintro _ w1 ⟨rfl, hC1⟩
  refine ⟨_, rfl, ?_⟩
  refine zl_pureL rfl ?_
  refine zl_nil ?_
  refine zk_seq ?_
  refine zc_false rfl ?_
  refine zc_skip ?_
  refine zk_seq ?_
  refine zc_seq ?_
  refine zc_region ?_
  refine zl_call (by first | exact want_none | exact want_L rfl) rfl (by decide) rfl new_calls ?_
  rintro _ w2 ⟨p, vl, Q, rfl, hD, hC2, hge⟩
  refine ⟨_, rfl, ?_⟩
  skip
  refine zl_call (by first | exact want_none | exact want_L rfl) rfl (by decide) rfl rNew_calls ?_
  rintro _ w3 ⟨p', vn, vu, vr, ms, ks, rfl, hR, hC3, hgeR⟩
  refine ⟨_, rfl, ?_⟩
  have hs1 := hC1.size
  have hs2 := hC2.size
  have hB0 : BB w3 p p' w.heap.size rootN rootN := ⟨vl, Q, vn, vu, vr, ms, ks, hD.no hC3, hR, fun k hf hr => by have := hD.lt k hf; have := hgeR k hr; omega, fun k hf => by have := hge k hf; omega, fun k hf => by have := hgeR k hf; omega⟩
  have hT0 : BT 0 rootN := fun i => by
    match i with
    | 0 => exact ⟨Nat.le_refl _, Nat.zero_le _⟩
    | i + 1 => exact ⟨Nat.le_refl _, Nat.zero_le _⟩
  iterate 2 (refine zl_pureL rfl ?_)
  refine zl_nil ?_
  refine zk_seq ?_
  iterate 2 (refine zc_seq ?_)
  refine zc_region ?_
  refine zl_pureL rfl ?_
  refine z_eqPN (by first | exact want_none | exact want_L rfl) (by decide) rfl rfl ?_
  refine zl_nil ?_
  refine zk_seq ?_
  refine zc_false rfl ?_
  refine zc_skip ?_
  refine zk_seq ?_
  iterate 2 (refine zc_seq ?_)
  refine zc_region ?_
  refine zl_pureL rfl ?_
  refine zl_nil ?_
  refine zk_seq ?_
  refine zc_block ?_
  refine zc_loopW (ι := Nat × List ND) (fun q u => [(0, .slice a len cap), (1, .bool raw), (5, .pointer (some ⟨p, 0, none⟩)), (6, .pointer (some ⟨p', 0, none⟩)), (7, .int .i64 q.1)])
    (fun q u => q.1 ≤ len ∧ q.1 ≤ 40 ∧ BB u p p' w.heap.size q.2 q.2 ∧ WF q.2 ∧ BT (50 * q.1) q.2 ∧ q.2.length ≤ 1 + q.1 ∧ Chg w u No) (fun q u => 40 - q.1) (0, rootN) ⟨Nat.zero_le _, Nat.zero_le _, hB0, rootN_WF, hT0, Nat.le_refl _, (hC1.no hC2).no hC3⟩ ?_ ?_
  · exact ⟨rfl, rfl, rfl, rfl, rfl, trivial⟩
  rintro ⟨i, N⟩ u ⟨hi, hi40, hB, hW, hT, hl, hC⟩
  dsimp only at hi hi40 hB hW hT hl ⊢
  by_cases h40 : i = 40
  · subst h40
    by_cases hlt : 40 < len
    · iterate 2 (refine zc_seq ?_)
      refine zc_region ?_
      iterate 2 (refine zl_pureL rfl ?_)
      refine z_len want_none (by decide) rfl ?_
      refine z_cmpB (r := true) want_none (by decide) rfl rfl rfl (iff_of_true rfl (by omega)) ?_
      iterate 2 (refine zl_pureL rfl ?_)
      refine z_cmpB (r := false) (want_L rfl) (by decide) rfl rfl rfl (iff_of_false Bool.false_ne_true (by omega)) ?_
      refine zl_pureL rfl ?_
      refine zl_nil ?_
      refine zk_seq ?_
      refine zc_false rfl ?_
      refine zc_exit ?_
      iterate 2 (refine zk_exit_then ?_)
      refine zk_exit_block ?_
      refine zk_seq ?_
      refine zc_seq ?_
      refine zc_region ?_
      refine zl_pureL rfl ?_
      refine zl_nil ?_
      refine zk_seq ?_
      refine zc_ret ?_
      exact zk_ret1 (.inr rfl) rfl rfl ⟨rfl, hC.below⟩
    · iterate 2 (refine zc_seq ?_)
      refine zc_region ?_
      iterate 2 (refine zl_pureL rfl ?_)
      refine z_len want_none (by decide) rfl ?_
      refine z_cmpB (r := false) want_none (by decide) rfl rfl rfl (iff_of_false Bool.false_ne_true (by omega)) ?_
      iterate 2 (refine zl_pureL rfl ?_)
      refine zl_skip rfl ?_
      refine zl_pureL rfl ?_
      refine zl_nil ?_
      refine zk_seq ?_
      refine zc_false rfl ?_
      refine zc_exit ?_
      iterate 2 (refine zk_exit_then ?_)
      refine zk_exit_block ?_
      refine zk_seq ?_
      refine zc_seq ?_
      refine zc_region ?_
      refine zl_pureL rfl ?_
      refine zl_nil ?_
      refine zk_seq ?_
      refine zc_ret ?_
      exact zk_ret1 (.inr rfl) rfl rfl ⟨rfl, hC.below⟩
  by_cases hlt : i < len
  rotate_left
  · obtain rfl : i = len := by omega
    iterate 2 (refine zc_seq ?_)
    refine zc_region ?_
    iterate 2 (refine zl_pureL rfl ?_)
    refine z_len want_none (by decide) rfl ?_
    refine z_cmpB (r := false) want_none (by decide) rfl rfl rfl (iff_of_false Bool.false_ne_true (by omega)) ?_
    iterate 2 (refine zl_pureL rfl ?_)
    refine zl_skip rfl ?_
    refine zl_pureL rfl ?_
    refine zl_nil ?_
    refine zk_seq ?_
    refine zc_false rfl ?_
    refine zc_exit ?_
    iterate 2 (refine zk_exit_then ?_)
    refine zk_exit_block ?_
    refine zk_seq ?_
    refine zc_seq ?_
    refine zc_region ?_
    refine zl_pureL rfl ?_
    refine zl_nil ?_
    refine zk_seq ?_
    refine zc_ret ?_
    exact zk_ret1 (.inr rfl) rfl rfl ⟨rfl, hC.below⟩
  obtain ⟨A, m, c, hv, hx⟩ := hO.no hC
  cases hv
  obtain ⟨b, o, hA, K, A', B, C, s, hcell⟩ := hx i hlt
  subst hA
  have hsz := hC.size
  iterate 2 (refine zc_seq ?_)
  refine zc_region ?_
  iterate 2 (refine zl_pureL rfl ?_)
  refine z_len want_none (by decide) rfl ?_
  refine z_cmpB (r := true) want_none (by decide) rfl rfl rfl (iff_of_true rfl (by omega)) ?_
  iterate 2 (refine zl_pureL rfl ?_)
  refine z_cmpB (r := true) (want_L rfl) (by decide) rfl rfl rfl (iff_of_true rfl (by omega)) ?_
  refine zl_pureL rfl ?_
  refine zl_nil ?_
  refine zk_seq ?_
  refine zc_true rfl ?_
  refine zc_skip ?_
  refine zk_seq ?_
  refine zc_seq ?_
  refine zc_block ?_
  refine zc_seq ?_
  refine zc_region ?_
  iterate 2 (refine zl_pureL rfl ?_)
  refine z_ia want_none (by decide) rfl rfl (by omega) (by omega) ?_
  have hag : ∀ j v, [Value.int .i64 K, .int .i64 A', .int .i64 B, .int .i64 C, .string s][j]? = some v → u.cell? ((⟨b, o + ((i : Nat) : Int).toNat * 5, none⟩ : Addr).add j) = some v := fun j v hj => by rw [addr_add]; exact hcell j v hj
  refine z_loadA (by rfl) (by first | exact want_none | exact want_L rfl) (by decide) rfl hag ?_
  refine z_alloc (by first | exact want_none | exact want_L rfl) (by decide) (fun u1 b8 hN1 => ?_)
  have hb1 : Blk u1 b8 59 [.int .i64 0, .int .i64 0, .int .i64 0, .int .i64 0, .string ⟨#[]⟩] := hN1.blk
  refine z_store (by first | exact want_none | exact want_L rfl) rfl rfl rfl (by assumption) (by first | exact Nat.le_refl _ | simp [Value.cells]) (by simp [Value.cells, Value.oneCell']) (fun u2 hU2 => ?_)
  have hb2 : Blk u2 b8 59 [.int .i64 K, .int .i64 A', .int .i64 B, .int .i64 C, .string s] := hU2.blk
  have hX2 : Chg u u2 No := hN1.chg.upd hU2 (hN1.ge (Chg.refl _ No))
  have hB2 := hB.no hX2
  have hge8 : w.heap.size ≤ b8 := by have := hN1.at_; omega
  have hs2' := hX2.size
  obtain ⟨L, hL⟩ : ∃ L, s = bs L := ⟨_, bs_ofB s⟩
  subst hL
  by_cases h50 : 50 < L.length
  · refine zl_nil ?_
    refine zk_seq ?_
    iterate 2 (refine zc_seq ?_)
    refine zc_region ?_
    refine z_fa want_none (by decide) rfl ?_
    refine z_loadB want_none (by decide) rfl (by assumption) (by rfl) ?_
    refine z_lenL want_none (by decide) rfl ?_
    refine z_cmpB (r := true) want_none (by decide) rfl rfl rfl (iff_of_true rfl (by omega)) ?_
    refine zl_nil ?_
    refine zk_seq ?_
    refine zc_true rfl ?_
    refine zc_seq ?_
    refine zc_region ?_
    refine zl_pureL rfl ?_
    refine zl_nil ?_
    refine zk_seq ?_
    refine zc_ret ?_
    refine zk_ret_then ?_
    refine zk_ret_block ?_
    iterate 2 (refine zk_ret_then ?_)
    refine zk_ret_block ?_
    refine zk_ret_then ?_
    exact zk_ret1 (.inr rfl) rfl rfl ⟨rfl, (hC.no hX2).below⟩
  cases raw
  · obtain ⟨_, _, vn2, vu2, vr2, _, _, _, hR2, _⟩ := hB2.ex
    obtain ⟨An, cn, hvn2, _⟩ := hR2.formN
    have hbp := hR2.blk
    rw [hvn2] at hbp
    have hpb : b8 ≠ p' := fun he => hb2.ne hbp (by decide) he
    refine zl_nil ?_
    refine zk_seq ?_
    iterate 2 (refine zc_seq ?_)
    refine zc_region ?_
    refine z_fa want_none (by decide) rfl ?_
    refine z_loadB want_none (by decide) rfl (by assumption) (by rfl) ?_
    refine z_lenL want_none (by decide) rfl ?_
    refine z_cmpB (r := false) want_none (by decide) rfl rfl rfl (iff_of_false Bool.false_ne_true (by omega)) ?_
    refine zl_nil ?_
    refine zk_seq ?_
    refine zc_false rfl ?_
    refine zc_skip ?_
    refine zk_seq ?_
    iterate 2 (refine zc_seq ?_)
    refine zc_region ?_
    iterate 2 (refine zl_pureL rfl ?_)
    refine zl_nil ?_
    refine zk_seq ?_
    refine zc_true rfl ?_
    refine zc_draw [7] (fun w' => Blk w' b8 59 [.int .i64 K, .int .i64 A', .int .i64 B, .int .i64 C, .string (bs L)] ∧ Blk w' p' 63 [.slice An N.length cn, vu2, vr2]) (.take 0 (.take 1 (.take 2 (.take 3 (.take 4 (.take 5 (.all1 6 (.last 7)))))))) (by rfl) (by kernel_rfl) (by kernel_rfl) (fun u3 hZ3 _ => ⟨?_, ?_⟩)
    · exact ⟨hb2.no hZ3, hbp.no hZ3⟩
    refine zs_rdL rfl want_none rfl (by decide) (fun _ hS => r_loadAB rfl hS.1 (by rfl)) ?_
    iterate 2 (refine zs_take rfl (zt_pure rfl ?_))
    refine zs_rdL rfl want_none rfl (by decide) (fun _ hS => r_fa rfl) ?_
    refine zs_rdL rfl want_none rfl (by decide) (fun _ hS => r_loadB rfl hS.2 (by rfl)) ?_
    refine zs_rdL rfl want_none rfl (by decide) (fun _ hS => r_len rfl) ?_
    refine zs_call rfl (by first | exact want_none | exact want_L rfl) rfl (by decide) rfl (tame_calls K A' B C (bs L) N.length (by omega)) ?_
    rintro _ u4 ⟨⟨A1, B1, C1, rfl⟩, hX4⟩
    have hX24 : Chg u2 u4 No := hZ3.no hX4
    refine ⟨_, rfl, ⟨hb2.no hX24, hbp.no hX24⟩, ?_⟩
    have hb4 := hb2.no hX24
    skip
    refine zs_storeL rfl (by first | exact want_none | exact want_L rfl) rfl rfl rfl (by assumption) (by first | exact Nat.le_refl _ | simp [Value.cells]) (by simp [Value.cells, Value.oneCell']) (fun u5 hU5 => ?_)
    have hb5 : Blk u5 b8 59 [.int .i64 K, .int .i64 A1, .int .i64 B1, .int .i64 C1, .string (bs L)] := hU5.blk
    have hX05 : Chg u u5 No := (hX2.no hX24).trans hU5.chg (fun k hk he => by have := hN1.at_; omega)
    have hB5 := hB.no hX05
    have hs5 := hX05.size
    refine zk_seq ?_
    refine zc_seq ?_
    refine zc_region ?_
    iterate 2 (refine zl_pureL rfl ?_)
    refine z_loadAB want_none (by decide) rfl (by assumption) (by rfl) ?_
    refine zl_call (by first | exact want_none | exact want_L rfl) rfl (by decide) rfl (do_calls hB5 (by omega) hW (by omega) hT (by omega) K A1 B1 C1 L (by omega)) ?_
    rintro _ u6 ⟨N', rfl, hB4, hW4, hT4, hl4, hK4⟩
    refine ⟨_, rfl, ?_⟩
    have hC4 : Chg w u6 No := (hC.no hX05).trans hK4.chg (fun k hk he => by omega)
    iterate 4 (refine zl_pureL rfl ?_)
    refine zl_call (by first | exact want_none | exact want_L rfl) rfl (by decide) rfl (both_calls hB4 hW4 (by omega) hT4 (by omega)) ?_
    rintro _ u7 ⟨rfl, hX5⟩
    refine ⟨_, rfl, ?_⟩
    iterate 2 (refine zl_pureL rfl ?_)
    refine zl_nil ?_
    refine zk_seq ?_
    refine zc_false rfl ?_
    refine zc_skip ?_
    refine zk_norm_block ?_
    refine zk_seq ?_
    refine zc_region ?_
    refine zl_pureL rfl ?_
    refine z_add want_none (by decide) rfl rfl (by omega) (by omega) ?_
    refine zl_pureL rfl ?_
    refine zl_nil ?_
    exact zk_loopW (i + 1, N') ⟨by omega, by omega, hB4.no hX5, hW4, (by dsimp only; exact hT4.mono (by omega)), by dsimp only; omega, hC4.no hX5⟩ (by show 40 - (i + 1) < 40 - i; omega) ⟨rfl, rfl, rfl, rfl, get_int rfl (by simp), trivial⟩
  · refine zl_nil ?_
    refine zk_seq ?_
    iterate 2 (refine zc_seq ?_)
    refine zc_region ?_
    refine z_fa want_none (by decide) rfl ?_
    refine z_loadB want_none (by decide) rfl (by assumption) (by rfl) ?_
    refine z_lenL want_none (by decide) rfl ?_
    refine z_cmpB (r := false) want_none (by decide) rfl rfl rfl (iff_of_false Bool.false_ne_true (by omega)) ?_
    refine zl_nil ?_
    refine zk_seq ?_
    refine zc_false rfl ?_
    refine zc_skip ?_
    refine zk_seq ?_
    iterate 2 (refine zc_seq ?_)
    refine zc_region ?_
    iterate 2 (refine zl_pureL rfl ?_)
    refine zl_nil ?_
    refine zk_seq ?_
    refine zc_false rfl ?_
    refine zc_skip ?_
    refine zk_seq ?_
    refine zc_seq ?_
    refine zc_region ?_
    iterate 2 (refine zl_pureL rfl ?_)
    refine z_loadAB want_none (by decide) rfl (by assumption) (by rfl) ?_
    refine zl_call (by first | exact want_none | exact want_L rfl) rfl (by decide) rfl (do_calls hB2 (by omega) hW (by omega) hT (by omega) K A' B C L (by omega)) ?_
    rintro _ u4 ⟨N', rfl, hB4, hW4, hT4, hl4, hK4⟩
    refine ⟨_, rfl, ?_⟩
    have hC4 : Chg w u4 No := (hC.no hX2).trans hK4.chg (fun k hk he => by omega)
    iterate 4 (refine zl_pureL rfl ?_)
    refine zl_call (by first | exact want_none | exact want_L rfl) rfl (by decide) rfl (both_calls hB4 hW4 (by omega) hT4 (by omega)) ?_
    rintro _ u5 ⟨rfl, hX5⟩
    refine ⟨_, rfl, ?_⟩
    iterate 2 (refine zl_pureL rfl ?_)
    refine zl_nil ?_
    refine zk_seq ?_
    refine zc_false rfl ?_
    refine zc_skip ?_
    refine zk_norm_block ?_
    refine zk_seq ?_
    refine zc_region ?_
    refine zl_pureL rfl ?_
    refine z_add want_none (by decide) rfl rfl (by omega) (by omega) ?_
    refine zl_pureL rfl ?_
    refine zl_nil ?_
    exact zk_loopW (i + 1, N') ⟨by omega, by omega, hB4.no hX5, hW4, (by dsimp only; exact hT4.mono (by omega)), by dsimp only; omega, hC4.no hX5⟩ (by show 40 - (i + 1) < 40 - i; omega) ⟨rfl, rfl, rfl, rfl, get_int rfl (by simp), trivial⟩
end Go.Proofs.Ytjiehalanklapaa.D
