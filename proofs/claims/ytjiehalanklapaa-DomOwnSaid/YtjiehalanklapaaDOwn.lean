import Derived.Test.YtjiehalanklapaaDMade2
import Derived.Test.YtjiehalanklapaaDMoves
/- DomOwn: the walk. -/
namespace Go.Proofs.Ytjiehalanklapaa.D
open Go Go.Z Go.Proofs
set_option linter.unusedVariables false
theorem IsD.chgA {w w' : World} {p : Nat} {vl : Value} {Q : List PN} {N : List ND} {S : Nat → Prop} (h : IsD w p vl Q N) (hc : Chg w w' S) (hS : ∀ k, foot p vl Q k → ¬ S k) (hA : ∀ i, i < N.length → AttrS w' (Q.getD i q0).va (N.getD i n0).attrs) : IsD w' p vl Q N :=
  ⟨h.blk.chg hc (hS _ (.inl rfl)), h.row.chg hc (fun k hk => hS k (.inr (.inl hk))), h.len, fun i hi => by
    have hn := h.at_ i hi
    have hf : ∀ k, nf (Q.getD i q0) k → ¬ S k := fun k hk => hS k (.inr (.inr ⟨i, by rw [h.len]; exact hi, hk⟩))
    exact ⟨hn.1.chg hc (hf _ (.inl rfl)), hA i hi, hn.2.2.1.chg hc (fun k hk => hf k (.inr (.inl hk))), hn.2.2.2.chg hc (fun k hk => hf k (.inr (.inr hk)))⟩, h.ap⟩
/-- as elem'_calls, with what is told of the node's attributes -/
theorem elemN_calls {w : World} {p : Nat} {vl va : Value} {Q : List PN} {N : List ND} (h : IsD w p vl Q N) (hl : N.length ≤ 100000) (sp : Int) (nm : ByteArray) {l : List At} (ha : AttrS w va l) (hal : l.length ≤ 100000) :
    Calls Try.prog 14 [.pointer (some ⟨p, 0, none⟩), .int .i64 sp, .string nm, va].toArray w fun e w' => e = .returned (.int .i64 N.length) ∧ ∃ vl' q, IsD w' p vl' (Q ++ [q]) (N ++ [⟨1, sp, nm, l, [], -1, []⟩]) ∧ WrD w w' p vl Q vl' (Q ++ [q]) ∧ NewS w.heap.size q.va := by
  obtain ⟨A0, c0, hv0, _⟩ := ha.form
  subst hv0
  refine calls_zc (n := 17) (f := 14) (fn := Try.f14) Try.func14 rfl rfl (by simp) ?_
  refine zc_seq ?_
  refine zc_region ?_
  refine zl_pureL rfl ?_
  refine zl_nil ?_
  refine zk_seq ?_
  refine zc_seq ?_
  refine zc_region ?_
  iterate 4 (refine zl_pureL rfl ?_)
  refine zl_call (by first | exact want_none | exact want_L rfl) rfl (by decide) rfl (copied_calls ha hal) ?_
  rintro _ w1 ⟨v1, rfl, ha1, hn1, hC1⟩
  obtain ⟨A1, c1, rfl, _⟩ := ha1.form
  refine ⟨_, rfl, ?_⟩
  skip
  refine z_buildE #[.int .i64 1, .int .i64 sp, .string nm, .slice A1 l.length c1, .slice none 0 0, .int .i64 0, .slice none 0 0] (by first | exact want_none | exact want_L rfl) (by decide) rfl (by kernel_rfl) ?_
  refine z_box (by first | exact want_none | exact want_L rfl) (by decide) rfl (fun w2 b2 hN2 => ?_)
  skip
  have hC2 := hC1.new hN2
  have hq : NodeAt w2 ⟨b2, .slice A1 l.length c1, .slice none 0 0, .slice none 0 0⟩ ⟨1, sp, nm, l, [], 0, []⟩ := ⟨hN2.blk, ha1.no hN2.chg, .nil, .nil⟩
  have hge := hN2.ge hC1
  have hnf : ∀ k, nf ⟨b2, .slice A1 l.length c1, .slice none 0 0, .slice none 0 0⟩ k → w.heap.size ≤ k := by
    rintro k (rfl | hk | hk)
    · exact hge
    · cases hk
    · cases hk
  refine zl_call (by first | exact want_none | exact want_L rfl) rfl (by decide) rfl (add_calls (h.no hC2) hl hq (fun k hk hf => by have := hnf k hk; have := h.lt k hf; omega) rfl) ?_
  rintro _ w3 ⟨rfl, vl', g1, g2, g3, g4⟩
  refine ⟨_, rfl, ?_⟩
  refine zl_pureL rfl ?_
  refine zl_nil ?_
  refine zk_seq ?_
  refine zc_ret ?_
  exact zk_ret1 (.inr rfl) rfl rfl ⟨rfl, _, ⟨b2, .slice A1 l.length c1, .slice none 0 0, .slice none 0 0⟩, g1, WrD.add hC2 hnf g2 g3 g4, hn1⟩
/-- a node of a tree whose rows lie in some set of blocks -/
theorem RowsOk.at_ {w : World} {o8 o5 : Nat → Prop} : ∀ (t : NT) (ms : List MN) (i : Nat), RowsOk w o8 o5 t ms → i < t.len → ∃ x k r, t.dropN i = .cons x k r ∧ HR w (ms.getD i MN.z) x ∧ (0 < x.attrs.length → ∀ b, (ms.getD i MN.z).attrs.ownBlock = some b → o5 b) ∧ TreeOk w o8 o5 (ms.getD i MN.z).kids k
  | .nil, ms, i, h, hi => by simp [NT.len] at hi
  | .cons x k r, ms, 0, h, hi => by
    obtain ⟨m, q, rfl, h2, h3, h4, h5⟩ := h
    exact ⟨x, k, r, rfl, h2, h3, h4⟩
  | .cons x k r, ms, i + 1, h, hi => by
    obtain ⟨m, q, rfl, h2, h3, h4, h5⟩ := h
    exact RowsOk.at_ r q i h5 (by simp only [NT.len] at hi; omega)
theorem TreeOk.at_ {w : World} {o8 o5 : Nat → Prop} {v : Value} {t : NT} (h : TreeOk w o8 o5 v t) (i : Nat) (hi : i < t.len) : ∃ b o c x k r A K cells, t.dropN i = .cons x k r ∧ v = .slice (some ⟨b, o, none⟩) t.len c ∧ Blk w b 48 cells ∧ o8 b ∧ o + i * 7 + 7 ≤ cells.length ∧ NodeC w b (o + i * 7) x A K ∧ AttrS w A x.attrs ∧ (0 < x.attrs.length → ∀ b, A.ownBlock = some b → o5 b) ∧ TreeOk w o8 o5 K k := by
  obtain ⟨ms, h1, h2, h3⟩ := h
  have hlen := Rows.len t ms (RowsOk.rows t ms h3)
  obtain ⟨l1, l2, A', c', l3, l4, l5⟩ := h1
  obtain ⟨b, o, cells, l6, l7, l8⟩ := l5 (by omega)
  obtain ⟨x, k, r, e1, ⟨g0, g1, g2, g3, g4, g5⟩, e2, e3⟩ := RowsOk.at_ t ms i h3 hi
  have hg := encN_get ms i (by omega)
  subst l6
  have ho : o8 b := h2 (by omega) b (by rw [l3]; rfl)
  have hc : ∀ j u, (ms.getD i MN.z).cells[j]? = some u → w.cell? ⟨b, o + i * 7 + j, none⟩ = some u := fun j u hj => by
    rw [l7.cell, Nat.add_assoc]; exact l8 _ _ (hg j u hj)
  have hfit : o + i * 7 + 7 ≤ cells.length := by
    have := (List.getElem?_eq_some_iff.1 (l8 _ _ (hg 6 _ rfl))).1
    omega
  refine ⟨b, o, c', x, k, r, (ms.getD i MN.z).attrs, (ms.getD i MN.z).kids, cells, e1, by rw [l3, hlen], l7, ho, hfit, ⟨?_, ?_, ?_, hc 3 _ rfl, ?_, ?_, hc 6 _ rfl⟩, g3, e2, e3⟩
  · rw [← g0]; exact hc 0 _ rfl
  · rw [← g1]; exact hc 1 _ rfl
  · rw [← g2]; exact hc 2 _ rfl
  · rw [← g4]; exact hc 4 _ rfl
  · rw [← g5]; exact hc 5 _ rfl
def ownA : List At := [(⟨#[97]⟩, ⟨#[98]⟩)]
def owN (K0 K1 : List Nat) (u : Int) : List ND := [⟨1, 1, ⟨#[]⟩, [], [], -1, K0⟩, ⟨1, 1, ⟨#[112]⟩, ownA, [], u, K1⟩]
def owN3 : List ND := [⟨1, 1, ⟨#[]⟩, [], [], -1, [1]⟩, ⟨1, 1, ⟨#[112]⟩, ownA, [], 0, [2]⟩, ⟨2, 0, ⟨#[]⟩, [], [120], 1, []⟩]
theorem ow3 : writeN (owN [1] [] 0) [120] 1 0 = owN3 := by rfl
def owT : NT := .cons ⟨1, 1, ⟨#[112]⟩, ownA, ⟨#[]⟩, 0⟩ (.cons ⟨2, 0, ⟨#[]⟩, [], ⟨#[120]⟩, 0⟩ .nil .nil) .nil
theorem owTF : TF owN3 [1] owT := .cons 1 _ _ _ (.cons 2 _ _ _ .nil .nil) .nil
set_option maxHeartbeats 16000000 in
theorem DomOwn_walk (a : Option Addr) (len cap : Nat) (zs : List Int) (w : World) (hr : IsRow .i64 w a len cap zs) : Calls Try.prog 6 #[.slice a len cap] w fun e w' => e = .returned (.bool true) ∧ RowKit.Below w.heap.size w w' := by
  show Calls Try.prog 6 [Value.slice a len cap].toArray w _
  have hsz : (madeT zs len 6 0).1.size ≤ 22000 := made_size6
  obtain ⟨hsd, hfw⟩ := made_sound (zs := zs) (len := len) 6 0
  refine calls_zc (n := 144) (f := 6) (fn := Try.f6) Try.func6 rfl rfl (by simp) ?_
  refine zc_seq ?_
  refine zc_region ?_
  refine zl_pureL rfl ?_
  refine zl_nil ?_
  refine zk_seq ?_
  iterate 2 (refine zc_seq ?_)
  refine zc_region ?_
  refine zl_call (by first | exact want_none | exact want_L rfl) rfl (by decide) rfl known_calls ?_
  rintro _ w1 ⟨rfl, hC1⟩
  refine ⟨_, rfl, ?_⟩
  refine zl_pureL rfl ?_
  refine zl_nil ?_
  refine zk_seq ?_
  refine zc_false rfl ?_
  refine zc_skip ?_
  refine zk_seq ?_
  refine zc_seq ?_
  refine zc_region ?_
  refine zl_call (by first | exact want_none | exact want_L rfl) rfl (by decide) rfl (DF.new hC1) ?_
  rintro _ w2 ⟨p, vl, Q, rfl, hD⟩
  refine ⟨_, rfl, ?_⟩
  refine zl_pureL rfl ?_
  refine zl_nil ?_
  refine zk_seq ?_
  iterate 2 (refine zc_seq ?_)
  refine zc_region ?_
  refine zl_pureL rfl ?_
  refine z_eqPN (by first | exact want_none | exact want_L rfl) (by decide) rfl rfl ?_
  refine zl_nil ?_
  refine zk_seq ?_
  refine zc_false rfl ?_
  refine zc_skip ?_
  refine zk_seq ?_
  refine zc_seq ?_
  refine zc_region ?_
  refine z_buildE #[.string ⟨#[97]⟩, .string ⟨#[98]⟩] (by first | exact want_none | exact want_L rfl) (by decide) rfl (by kernel_rfl) ?_
  refine z_bs1 (by first | exact want_none | exact want_L rfl) (by decide) rfl (by rfl) (by rfl) (by decide) (by decide) (fun w3 ba hN3 => ?_)
  have hD3 := hD.no hN3.chg
  have hba : Blk w3 ba 45 [.string ⟨#[97]⟩, .string ⟨#[98]⟩] := hN3.blk
  have hgea := hN3.ge hD.chg
  have hat : AttrS w3 (.slice (some ⟨ba, 0, none⟩) 1 1) ownA := RdS.new hN3 rfl (encA_one _)
  refine zl_pureL rfl ?_
  refine zl_nil ?_
  refine zk_seq ?_
  refine zc_seq ?_
  refine zc_region ?_
  iterate 2 (refine zl_pureL rfl ?_)
  refine zl_call (by first | exact want_none | exact want_L rfl) rfl (by decide) rfl (elemN_calls hD3.is (by decide) 1 ⟨#[112]⟩ hat (by decide)) ?_
  rintro _ w4 ⟨rfl, vl4, q4, hI4, hW4, hnew4⟩
  refine ⟨_, rfl, ?_⟩
  have hD4 := hD3.wr hI4 hW4 (hD3.wf.add rfl rfl)
  rw [show ((rootN.length : Nat) : Int) = 1 from rfl]
  have hba4 := hW4.k45 _ _ hba
  refine zl_pureL rfl ?_
  refine zl_nil ?_
  refine zk_seq ?_
  refine zc_seq ?_
  refine zc_region ?_
  refine zl_pureL rfl ?_
  refine z_ia want_none (by decide) rfl rfl (by omega) (by omega) ?_
  refine z_fa want_none (by decide) rfl ?_
  refine z_store (by first | exact want_none | exact want_L rfl) rfl rfl rfl (by assumption) (by first | exact Nat.le_refl _ | simp [Value.cells]) (by simp [Value.cells, Value.oneCell']) (fun w5 hU5 => ?_)
  have hsz3 := hba.lt
  have hQl := hD3.is.len
  have hD5 : DF w w5 p vl4 (Q ++ [q4]) (rootN ++ [⟨1, 1, ⟨#[112]⟩, ownA, [], -1, []⟩]) := by
    refine ⟨hI4.chgA hU5.chg (fun k hk he => hI4.notft hba4 (by decide) (by decide) (by decide) (by decide) (by decide) (he ▸ hk)) (fun i hi => ?_), hD4.ge, hD4.chg.upd hU5 hgea, hD4.wf⟩
    have hai := (hI4.at_ i hi).2.1
    refine hai.chgAt hU5.chg (fun hm b cells hb hk he => ?_)
    rw [getD_snoc] at hb
    rw [getD_add] at hm
    by_cases h1 : i = rootN.length
    · rw [hQl, if_pos h1] at hb
      have := hnew4 b hb
      omega
    · rw [if_neg h1] at hm
      have : i = 0 := by simp [rootN] at hi h1; omega
      subst this
      exact absurd hm (by decide)
  refine zl_nil ?_
  refine zk_seq ?_
  refine zc_seq ?_
  refine zc_region ?_
  iterate 2 (refine zl_pureL rfl ?_)
  refine zl_call (by first | exact want_none | exact want_L rfl) rfl (by decide) rfl (hD5.put (by decide) 1 0 (-1) (owN [1] [] 0) ⟨⟨by decide, by decide⟩, ⟨by decide, by decide⟩, rfl, by decide, by show (-1 : Int) < 0; decide, fun hh => absurd (anc_root rfl hh) (by decide), rfl⟩ rfl) ?_
  rintro _ w6 ⟨rfl, vl6, Q6, hD6, _⟩
  refine ⟨_, rfl, ?_⟩
  refine zl_nil ?_
  refine zk_seq ?_
  refine zc_seq ?_
  refine zc_region ?_
  iterate 2 (refine zl_pureL rfl ?_)
  refine zl_call (by first | exact want_none | exact want_L rfl) rfl (by decide) rfl (hD6.write (by decide) (BigT.of (by simp [owN, ownA])) [120] (by decide) rfl 1 (-1) owN3 ⟨⟨by decide, by decide⟩, rfl, rfl⟩ ow3) ?_
  rintro _ w7 ⟨rfl, vl7, Q7, hD7, _⟩
  refine ⟨_, rfl, ?_⟩
  have hB7 : BigT owN3 := BigT.of (by simp [owN3, ownA])
  refine zl_nil ?_
  refine zk_seq ?_
  refine zc_seq ?_
  refine zc_region ?_
  refine zl_pureL rfl ?_
  refine zl_call (by first | exact want_none | exact want_L rfl) rfl (by decide) rfl (hD7.tree (by decide) hB7 0 (by decide) owT owTF rfl) ?_
  rintro _ w8 ⟨v8, rfl, hT8, hD8, hC8⟩
  refine ⟨_, rfl, ?_⟩
  refine zl_pureL rfl ?_
  refine zl_nil ?_
  refine zk_seq ?_
  refine zc_seq ?_
  refine zc_region ?_
  refine zl_pureL rfl ?_
  refine zl_call (by first | exact want_none | exact want_L rfl) rfl (by decide) rfl (kids_calls hD8.is 0 (by decide)) ?_
  rintro _ w9 ⟨v9, rfl, hi9, hC9⟩
  refine ⟨_, rfl, ?_⟩
  rw [if_pos (show isN owN3 0 from ⟨by decide, by decide⟩), show (ndOf owN3 0).kids = [1] from rfl] at hi9
  have hT9 := hT8.no hC9
  have hi9 : Own w9 3 1 v9 1 [.int .i64 1] ∧ NewS w8.heap.size v9 := hi9
  obtain ⟨b8, o8, c8, x8, k8, r8, A8, K8, cells8, e8, hv8, hb8, hg8, hf8, hn8, ha8, hn5, hk8⟩ := hT9.at_ 0 (by decide)
  cases e8
  rw [show owT.len = 1 from rfl] at hv8
  subst hv8
  obtain ⟨_, _, A9', oc, hvv, _, hRa⟩ := ha8
  obtain ⟨ab, ao, acells, haa, hbA, hAc⟩ := hRa (by decide)
  subst haa
  have hvv : A8 = .slice (some ⟨ab, ao, none⟩) 1 oc := hvv
  subst hvv
  have hgeA : w7.heap.size ≤ ab := hn5 (by decide) ab rfl
  have hfA : ao + 2 ≤ acells.length := by
    have := (List.getElem?_eq_some_iff.1 (hAc 1 (.string ⟨#[98]⟩) rfl)).1; omega
  obtain ⟨bk, ok, ck, xk, kk, rk, Ak, Kk, cellsk, ek, hvk, hbk, hgk, hfk, hnk, _, _, _⟩ := hk8.at_ 0 (by decide)
  cases ek
  have hvk : K8 = .slice (some ⟨bk, ok, none⟩) 1 ck := hvk
  subst hvk
  obtain ⟨_, hcs9⟩ := hi9.1.cases
  rcases hcs9 with ⟨_, hh, _⟩ | ⟨b9, cp9, junk9, rfl, hc9, _, hb9, _⟩
  · cases hh
  have hge9 := hi9.2 b9 rfl
  have hs78 := hC8.size
  have hs89 := hC9.size
  refine zl_pureL rfl ?_
  refine zl_nil ?_
  refine zk_seq ?_
  iterate 2 (refine zc_seq ?_)
  refine zc_region ?_
  refine zl_pureL rfl ?_
  refine z_len want_none (by decide) rfl ?_
  refine z_cmpB (r := false) want_none (by decide) rfl rfl rfl (iff_of_false Bool.false_ne_true (by omega)) ?_
  iterate 2 (refine zl_pureL rfl ?_)
  refine z_ia (want_L rfl) (by decide) rfl rfl (by omega) (by omega) ?_
  refine z_fa (want_L rfl) (by decide) rfl ?_
  refine z_load1 (by first | exact want_none | exact want_L rfl) (by decide) rfl (cell_at hn8.c3 (by omega)) ?_
  refine z_len (want_L rfl) (by decide) rfl ?_
  refine z_cmpB (r := false) (want_L rfl) (by decide) rfl rfl rfl (iff_of_false Bool.false_ne_true (by omega)) ?_
  iterate 3 (refine zl_pureL rfl ?_)
  refine z_ia (want_L rfl) (by decide) rfl rfl (by omega) (by omega) ?_
  refine z_fa (want_L rfl) (by decide) rfl ?_
  refine z_load1 (by first | exact want_none | exact want_L rfl) (by decide) rfl (cell_at hn8.c6 (by omega)) ?_
  refine z_len (want_L rfl) (by decide) rfl ?_
  refine z_cmpB (r := false) (want_L rfl) (by decide) rfl rfl rfl (iff_of_false Bool.false_ne_true (by omega)) ?_
  iterate 3 (refine zl_pureL rfl ?_)
  refine z_len (want_L rfl) (by decide) rfl ?_
  refine z_cmpB (r := false) (want_L rfl) (by decide) rfl rfl rfl (iff_of_false Bool.false_ne_true (by omega)) ?_
  refine zl_pureL rfl ?_
  refine zl_nil ?_
  refine zk_seq ?_
  refine zc_false rfl ?_
  refine zc_skip ?_
  refine zk_seq ?_
  refine zc_seq ?_
  refine zc_region ?_
  refine zl_pureL rfl ?_
  refine z_ia want_none (by decide) rfl rfl (by omega) (by omega) ?_
  refine z_fa want_none (by decide) rfl ?_
  refine z_load1 (by first | exact want_none | exact want_L rfl) (by decide) rfl (cell_at hn8.c3 (by omega)) ?_
  refine z_ia want_none (by decide) rfl rfl (by omega) (by omega) ?_
  refine z_fa want_none (by decide) rfl ?_
  refine z_store (o := ao) (by first | exact want_none | exact want_L rfl) (ev_ptr rfl (by omega)) rfl rfl hbA (by show ao + 1 ≤ _; omega) (by simp [Value.cells, Value.oneCell']) (fun w10 hU10 => ?_)
  have hb8' := hb8.upd hU10 (by decide)
  have hbk' := hbk.upd hU10 (by decide)
  have hb9' := hb9.upd hU10 (by decide)
  have hc6' : w10.cell? ⟨b8, o8 + 0 * 7 + 6, none⟩ = some _ := cell_chg hU10.chg (fun he => hb8.ne hbA (by decide) he) hn8.c6
  refine zl_nil ?_
  refine zk_seq ?_
  refine zc_seq ?_
  refine zc_region ?_
  refine zl_pureL rfl ?_
  refine z_ia want_none (by decide) rfl rfl (by omega) (by omega) ?_
  refine z_fa want_none (by decide) rfl ?_
  refine z_load1 want_none (by decide) rfl (by assumption) ?_
  refine z_ia want_none (by decide) rfl rfl (by omega) (by omega) ?_
  refine z_fa want_none (by decide) rfl ?_
  refine z_store (o := ok + 4) (by first | exact want_none | exact want_L rfl) (ev_ptr rfl (by omega)) rfl rfl hbk' (by show ok + 4 + 1 ≤ _; omega) (by simp [Value.cells, Value.oneCell']) (fun w11 hU11 => ?_)
  have hb9'' := hb9'.upd hU11 (by decide)
  refine zl_nil ?_
  refine zk_seq ?_
  refine zc_seq ?_
  refine zc_region ?_
  refine zl_pureL rfl ?_
  refine z_ia want_none (by decide) rfl rfl (by omega) (by omega) ?_
  refine z_store (o := 0) (by first | exact want_none | exact want_L rfl) (ev_ptr rfl (by omega)) rfl rfl hb9'' (by show 0 + 1 ≤ _; simp) (by simp [Value.cells, Value.oneCell']) (fun w12 hU12 => ?_)
  have hC712 : Chg w7 w12 No := (((hC8.no hC9).trans hU10.chg (fun i hi he => by omega)).trans hU11.chg (fun i hi he => by omega)).trans hU12.chg (fun i hi he => by omega)
  have hD12 := hD7.no hC712
  refine zl_nil ?_
  refine zk_seq ?_
  refine zc_seq ?_
  refine zc_region ?_
  refine zl_pureL rfl ?_
  refine zl_call (by first | exact want_none | exact want_L rfl) rfl (by decide) rfl (hD12.tree (by decide) hB7 0 (by decide) owT owTF rfl) ?_
  rintro _ w13 ⟨v13, rfl, hT13, hD13, hC13⟩
  refine ⟨_, rfl, ?_⟩
  have ht13 := hT13.at'
  refine zl_pureL rfl ?_
  refine zl_nil ?_
  refine zk_seq ?_
  refine zc_seq ?_
  refine zc_region ?_
  refine zl_pureL rfl ?_
  refine zl_call (by first | exact want_none | exact want_L rfl) rfl (by decide) rfl (Made_calls hr hD13.chg) ?_
  rintro _ w14 ⟨v14, rfl, hT14, hC14⟩
  refine ⟨_, rfl, ?_⟩
  have ht14 := hT14.at'
  have hD14 := hD13.no hC14
  have ht13 := ht13.no hC14
  generalize hTe : (madeT zs len 6 0).1 = T at hsz hsd hfw ht14
  obtain ⟨A14, c14, hv14, _⟩ := ht14.form
  subst hv14
  refine zl_pureL rfl ?_
  refine zl_nil ?_
  refine zk_seq ?_
  refine zc_seq ?_
  refine zc_region ?_
  refine zl_pureL rfl ?_
  refine zl_call (by first | exact want_none | exact want_L rfl) rfl (by decide) rfl (number_calls ht14 hfw (by omega)) ?_
  rintro _ w15 ⟨v15, rfl, ht15, hC15⟩
  refine ⟨_, rfl, ?_⟩
  obtain ⟨A15, c15, hv15, _⟩ := ht15.form
  subst hv15
  have hD15 := hD14.no hC15
  have ht13 := ht13.no hC15
  have ht14 := ht14.no hC15
  obtain ⟨b, o, c, x, k, r, A, K, e1, hv, hN, hA, hK⟩ := ht13.at_ 0 (by decide)
  cases e1
  rw [show owT.len = 1 from rfl] at hv
  subst hv
  obtain ⟨ab2, ao2, ac2, hva2, g0, g1⟩ := hA.at_ 0 (by decide)
  have hva2 : A = .slice (some ⟨ab2, ao2, none⟩) 1 ac2 := hva2
  subst hva2
  obtain ⟨bk2, ok2, ck2, x2, k2, r2, A2, K2, e2, hv2, hN2, _, _⟩ := hK.at_ 0 (by decide)
  cases e2
  have hv2 : K = .slice (some ⟨bk2, ok2, none⟩) 1 ck2 := hv2
  subst hv2
  have hc3 := hN.c3
  have hc6 := hN.c6
  have hc4 : w15.cell? ⟨bk2, ok2 + 0 * 7 + 4, none⟩ = some (.string ⟨#[120]⟩) := hN2.c4
  have g0 : w15.cell? ⟨ab2, ao2 + 0 * 2, none⟩ = some (.string ⟨#[97]⟩) := g0
  have g1 : w15.cell? ⟨ab2, ao2 + 0 * 2 + 1, none⟩ = some (.string ⟨#[98]⟩) := g1
  refine zl_pureL rfl ?_
  refine zl_nil ?_
  refine zk_seq ?_
  refine zc_seq ?_
  refine zc_region ?_
  refine zl_pureL rfl ?_
  refine z_len want_none (by decide) rfl ?_
  refine z_cmpB (r := true) want_none (by decide) rfl rfl rfl (iff_of_true rfl (by omega)) ?_
  iterate 2 (refine zl_pureL rfl ?_)
  refine z_ia (want_L rfl) (by decide) rfl rfl (by omega) (by omega) ?_
  refine z_fa (want_L rfl) (by decide) rfl ?_
  refine z_load1 (want_L rfl) (by decide) rfl (by assumption) ?_
  refine z_len (want_L rfl) (by decide) rfl ?_
  refine z_cmpB (r := true) (want_L rfl) (by decide) rfl rfl rfl (iff_of_true rfl (by omega)) ?_
  iterate 3 (refine zl_pureL rfl ?_)
  refine z_ia (want_L rfl) (by decide) rfl rfl (by omega) (by omega) ?_
  refine z_fa (want_L rfl) (by decide) rfl ?_
  refine z_load1 (want_L rfl) (by decide) rfl (by assumption) ?_
  refine z_ia (want_L rfl) (by decide) rfl rfl (by omega) (by omega) ?_
  refine z_loadA (by rfl) (by first | exact want_none | exact want_L rfl) (by decide) rfl (agg2 g0 g1 (by omega)) ?_
  refine z_buildE #[.string ⟨#[97]⟩, .string ⟨#[98]⟩] (by first | exact want_none | exact want_L rfl) (by decide) rfl (by kernel_rfl) ?_
  refine zl_run (v := .bool true) (by first | exact want_none | exact want_L rfl) rfl (by decide) (r_eqA (r := (decide ((⟨#[97]⟩ : ByteArray) = ⟨#[97]⟩) && (decide ((⟨#[98]⟩ : ByteArray) = ⟨#[98]⟩) && true))) rfl rfl (by kernel_rfl) (fun d => eq_attr d)) ?_
  iterate 3 (refine zl_pureL rfl ?_)
  refine z_ia (want_L rfl) (by decide) rfl rfl (by omega) (by omega) ?_
  refine z_fa (want_L rfl) (by decide) rfl ?_
  refine z_load1 (want_L rfl) (by decide) rfl (by assumption) ?_
  refine z_len (want_L rfl) (by decide) rfl ?_
  refine z_cmpB (r := true) (want_L rfl) (by decide) rfl rfl rfl (iff_of_true rfl (by omega)) ?_
  iterate 3 (refine zl_pureL rfl ?_)
  refine z_ia (want_L rfl) (by decide) rfl rfl (by omega) (by omega) ?_
  refine z_fa (want_L rfl) (by decide) rfl ?_
  refine z_load1 (want_L rfl) (by decide) rfl (by assumption) ?_
  refine z_ia (want_L rfl) (by decide) rfl rfl (by omega) (by omega) ?_
  refine z_fa (want_L rfl) (by decide) rfl ?_
  refine z_load1 (want_L rfl) (by decide) rfl (by assumption) ?_
  refine z_eqLB (l := [120]) (r := [120]) (q := true) (by first | exact want_none | exact want_L rfl) (by decide) rfl rfl (iff_of_true rfl rfl) ?_
  iterate 3 (refine zl_pureL rfl ?_)
  refine zl_call (by first | exact want_none | exact want_L rfl) rfl (by decide) rfl (kids_calls hD15.is 0 (by decide)) ?_
  rintro _ w16 ⟨v16, rfl, hi16, hC16⟩
  refine ⟨_, rfl, ?_⟩
  rw [if_pos (show isN owN3 0 from ⟨by decide, by decide⟩), show (ndOf owN3 0).kids = [1] from rfl] at hi16
  obtain ⟨A16, c16, hv16, _⟩ := hi16.form
  have hv16 : v16 = .slice A16 1 c16 := hv16
  subst hv16
  have hD16 := hD15.no hC16
  refine z_len (want_L rfl) (by decide) rfl ?_
  refine z_cmpB (r := true) (want_L rfl) (by decide) rfl rfl rfl (iff_of_true rfl (by omega)) ?_
  iterate 3 (refine zl_pureL rfl ?_)
  refine zl_call (by first | exact want_none | exact want_L rfl) rfl (by decide) rfl (kids_calls hD16.is 0 (by decide)) ?_
  rintro _ w17 ⟨v17, rfl, hi17, hC17⟩
  refine ⟨_, rfl, ?_⟩
  rw [if_pos (show isN owN3 0 from ⟨by decide, by decide⟩), show (ndOf owN3 0).kids = [1] from rfl] at hi17
  obtain ⟨b17, o17, c17, hv17, _, hc17⟩ := RdS.some hi17.1.rd (by decide)
  have hv17 : v17 = .slice (some ⟨b17, o17, none⟩) 1 c17 := hv17
  subst hv17
  have g17 : w17.cell? ⟨b17, o17 + 0, none⟩ = some (.int .i64 1) := hc17 0 _ rfl
  have hD17 := hD16.no hC17
  refine z_ia (want_L rfl) (by decide) rfl rfl (by omega) (by omega) ?_
  refine z_load1 (want_L rfl) (by decide) rfl (by assumption) ?_
  refine zl_pureL rfl ?_
  refine z_cmpB (r := true) (want_L rfl) (by decide) rfl rfl rfl (iff_of_true rfl (by omega)) ?_
  iterate 4 (refine zl_pureL rfl ?_)
  refine zl_call (by first | exact want_none | exact want_L rfl) rfl (by decide) rfl (Made_calls hr hD17.chg) ?_
  rintro _ w18 ⟨v18, rfl, hT18, hC18⟩
  refine ⟨_, rfl, ?_⟩
  rw [hTe] at hT18
  refine zl_call (by first | exact want_none | exact want_L rfl) rfl (by decide) rfl (sameR_calls 22000 (((ht14.no hC16).no hC17).no hC18) hT18.at' hfw hfw hsz (by decide)) ?_
  rintro _ w19 ⟨q19, rfl, hq19, hC19⟩
  refine ⟨_, rfl, ?_⟩
  obtain rfl := hq19.2 rfl
  rw [numT_len]
  iterate 3 (refine zl_pureL rfl ?_)
  refine z_len (want_L rfl) (by decide) rfl ?_
  refine zl_pureL rfl ?_
  refine z_len (want_L rfl) (by decide) rfl ?_
  refine z_cmpB (r := true) (want_L rfl) (by decide) rfl rfl rfl (iff_of_true rfl (by omega)) ?_
  iterate 2 (refine zl_pureL rfl ?_)
  refine zl_nil ?_
  refine zk_seq ?_
  refine zc_ret ?_
  exact zk_ret1 (.inr rfl) rfl rfl ⟨rfl, ((hD17.no hC18).no hC19).chg.below⟩
end Go.Proofs.Ytjiehalanklapaa.D
