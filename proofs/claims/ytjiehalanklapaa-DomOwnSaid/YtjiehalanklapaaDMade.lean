import Derived.Test.YtjiehalanklapaaDZ3
/- Nodes made of a tape: the walk. -/
namespace Go.Proofs.Ytjiehalanklapaa.D
open Go Go.Z Go.Proofs
set_option linter.unusedVariables false
def txC : List Value := [.string ⟨#[111, 110, 101]⟩, .string ⟨#[32]⟩, .string ⟨#[116, 119, 111, 44, 32, 116, 104, 114, 101, 101]⟩, .string ⟨#[10]⟩, .string ⟨#[228, 184, 150]⟩, .string ⟨#[102, 111, 117, 114, 46]⟩, .string ⟨#[97, 32, 108, 111, 110, 103, 32, 116, 101, 120, 116, 44, 32, 119, 105, 116, 104, 32, 99, 111, 109, 109, 97, 115, 44, 32, 97, 110, 100, 32, 109, 111, 114, 101, 32, 111, 102, 32, 105, 116]⟩, .string ⟨#[120]⟩]
def ntC : List Value := [.string ⟨#[]⟩, .string ⟨#[110, 111, 116, 101]⟩]
def clC : List Value := [.string ⟨#[109, 97, 105, 110]⟩, .string ⟨#[102, 111, 111, 116, 101, 114]⟩, .string ⟨#[115, 112, 111, 110, 115, 111, 114]⟩, .string ⟨#[101, 110, 116, 114, 121]⟩, .string ⟨#[120]⟩]
def hrC : List Value := [.string ⟨#[104, 116, 116, 112, 58, 47, 47, 97, 47, 98]⟩, .string ⟨#[99]⟩, .string ⟨#[109, 97, 105, 108, 116, 111, 58, 120]⟩, .string ⟨#[106, 97, 118, 97, 115, 99, 114, 105, 112, 116, 58, 49]⟩]
theorem txC_get : ∀ i, i < 8 → txC[i]? = some (.string (txT i)) := by
  intro i hi
  match i, hi with
  | 0, _ | 1, _ | 2, _ | 3, _ | 4, _ | 5, _ | 6, _ | 7, _ => rfl
theorem ntC_get : ∀ i, i < 2 → ntC[i]? = some (.string (ntT i)) := by
  intro i hi
  match i, hi with
  | 0, _ | 1, _ => rfl
theorem clC_get : ∀ i, i < 5 → clC[i]? = some (.string (clT i)) := by
  intro i hi
  match i, hi with
  | 0, _ | 1, _ | 2, _ | 3, _ | 4, _ => rfl
theorem hrC_get : ∀ i, i < 4 → hrC[i]? = some (.string (hrT i)) := by
  intro i hi
  match i, hi with
  | 0, _ | 1, _ | 2, _ | 3, _ => rfl
theorem itemsT_text {zs : List Int} {len : Nat} {rec : Nat → NT × Nat} {m at_ k1 a1 v a2 : Nat} {pt : Bool} (h0 : at_ < len) (h1 : nx zs len at_ 6 = (k1, a1)) (h2 : k1 < 2) (h3 : pt = false) (h4 : nx zs len a1 8 = (v, a2)) :
    itemsT zs len rec (m + 1) pt at_ = (.cons ⟨2, 0, ⟨#[]⟩, [], txT v, 0⟩ .nil (itemsT zs len rec m true a2).1, (itemsT zs len rec m true a2).2) := by
  conv => lhs; unfold itemsT
  rw [if_pos h0, h1, if_pos ⟨h2, h3⟩, h4]
theorem itemsT_note {zs : List Int} {len : Nat} {rec : Nat → NT × Nat} {m at_ k1 a1 v a2 : Nat} {pt : Bool} (h0 : at_ < len) (h1 : nx zs len at_ 6 = (k1, a1)) (h3 : k1 = 2) (h4 : nx zs len a1 2 = (v, a2)) :
    itemsT zs len rec (m + 1) pt at_ = (.cons ⟨3, 0, ⟨#[]⟩, [], ntT v, 0⟩ .nil (itemsT zs len rec m false a2).1, (itemsT zs len rec m false a2).2) := by
  conv => lhs; unfold itemsT
  rw [if_pos h0, h1, if_neg (fun hh => by have := hh.1; dsimp only at this; omega), if_pos h3, h4]
theorem itemsT_elem {zs : List Int} {len : Nat} {rec : Nat → NT × Nat} {m at_ k1 a1 a2 a3 : Nat} {pt : Bool} {x : Hd} {k : NT} (h0 : at_ < len) (h1 : nx zs len at_ 6 = (k1, a1)) (h2 : ¬ (k1 < 2 ∧ pt = false)) (h3 : k1 ≠ 2) (h4 : elT zs len a1 = (x, a2)) (h5 : rec a2 = (k, a3)) :
    itemsT zs len rec (m + 1) pt at_ = (.cons x k (itemsT zs len rec m false a3).1, (itemsT zs len rec m false a3).2) := by
  conv => lhs; unfold itemsT
  rw [if_pos h0, h1, if_neg h2, if_neg h3, h4, h5]
theorem itemsT_end {zs : List Int} {len : Nat} {rec : Nat → NT × Nat} {m at_ : Nat} {pt : Bool} (h0 : ¬ at_ < len) : itemsT zs len rec m pt at_ = (.nil, at_) := by
  cases m with
  | zero => rfl
  | succ m => unfold itemsT; rw [if_neg h0]
theorem NT.drop_app : ∀ (t : NT) (s : NT), (t.app s).dropN t.len = s
  | .nil, s => rfl
  | .cons x k r, s => r.drop_app s
theorem prevB_snoc (t : NT) (x : Hd) (k : NT) : prevB (t.snoc x k) (t.snoc x k).len = decide (x.kind = 2) := by
  rw [NT.snoc_len]
  exact prevB_succ (k := k) (r := .nil) (t.drop_app _)
theorem cell_chg {w w' : World} {S : Nat → Prop} {b o : Nat} {v : Value} (hc : Chg w w' S) (hn : ¬ S b) (h : w.cell? ⟨b, o, none⟩ = some v) : w'.cell? ⟨b, o, none⟩ = some v := by
  have hlt : b < w.heap.size := by
    rcases Nat.lt_or_ge b w.heap.size with h1 | h1
    · exact h1
    · simp [World.cell?, Array.getElem?_eq_none h1] at h
  have := hc.same b hlt hn
  simp only [World.cell?, this] at h ⊢
  exact h
set_option maxHeartbeats 64000000 in
theorem made_body {lv : Nat} {rec : Nat → NT × Nat} (hlv : lv ≤ 6) {w0 : World} {bt : Nat} {a : Option Addr} {len cap : Nat} {zs : List Int}
    (hrec : lv < 6 → ∀ {w : World} {at_ : Nat}, Tp w0 w bt a len cap zs at_ → Calls Try.prog 51 [.pointer (some ⟨bt, 0, none⟩), .int .i64 ((lv : Int) + 1)].toArray w fun e w' => ∃ vo, e = .returned vo ∧ TreeOk w' (fun b => w.heap.size ≤ b) (fun b => w.heap.size ≤ b) vo (rec at_).1 ∧ Tp w0 w' bt a len cap zs (rec at_).2 ∧ Chg w w' (· = bt))
    (hnil : ¬ lv < 6 → ∀ a, rec a = (.nil, a)) {w : World} {at_ : Nat} (h : Tp w0 w bt a len cap zs at_) :
    Calls Try.prog 51 [.pointer (some ⟨bt, 0, none⟩), .int .i64 lv].toArray w fun e w' => ∃ vo, e = .returned vo ∧ TreeOk w' (fun b => w.heap.size ≤ b) (fun b => w.heap.size ≤ b) vo (itemsT zs len rec (1 + (nx zs len at_ 4).1) false (nx zs len at_ 4).2).1 ∧ Tp w0 w' bt a len cap zs (itemsT zs len rec (1 + (nx zs len at_ 4).1) false (nx zs len at_ 4).2).2 ∧ Chg w w' (· = bt) := by
  have hw0 := h.chg.size
  refine calls_zc (n := 120) (f := 51) (fn := Try.f51) Try.func51 rfl rfl (by simp) ?_
  refine zc_seq ?_
  refine zc_region ?_
  refine zl_pureL rfl ?_
  refine zl_nil ?_
  refine zk_seq ?_
  refine zc_seq ?_
  refine zc_region ?_
  refine zl_call (by first | exact want_none | exact want_L rfl) rfl (by decide) rfl (wordsR_calls (l := mdW) (by decide)) ?_
  rintro _ w1 ⟨vn, rfl, hn1, hC1⟩
  refine ⟨_, rfl, ?_⟩
  rw [show wordsN [] mdW = mdN from rfl, mdN_len] at hn1
  have h1 := h.no hC1
  obtain ⟨bn, on, cn, hvn, _, hcn⟩ := RdS.some hn1.rd (by omega)
  subst hvn
  have hnb : ∃ cells, Blk w1 bn 9 cells := by
    obtain ⟨_, hcs⟩ := hn1.cases
    rcases hcs with ⟨hh, _⟩ | ⟨b, cp, junk, hh, _, _, hb, _⟩
    · cases hh
    · cases hh; exact ⟨_, hb⟩
  obtain ⟨ncells, hnb⟩ := hnb
  have hnbt : ¬ bn = bt := fun he => hnb.ne h1.blk (by decide) he
  refine zl_pureL rfl ?_
  refine zl_nil ?_
  refine zk_seq ?_
  refine zc_seq ?_
  refine zc_region ?_
  refine zl_pureL rfl ?_
  refine zl_nil ?_
  refine zk_seq ?_
  refine zc_seq ?_
  refine zc_region ?_
  refine zl_pureL rfl ?_
  refine zl_call (by first | exact want_none | exact want_L rfl) rfl (by decide) rfl (next'_calls h1 4 (by decide) (by decide) rfl) ?_
  rintro _ w2 ⟨rfl, h2, hC2⟩
  refine ⟨_, rfl, ?_⟩
  have hq := nx_lt zs len at_ 4 (by decide)
  generalize nx zs len at_ 4 = q0 at h2 hq ⊢
  obtain ⟨n0_, a0⟩ := q0
  dsimp only at h2 hq ⊢
  refine z_add want_none (by decide) rfl rfl (by omega) (by omega) ?_
  refine zl_pureL rfl ?_
  refine zl_nil ?_
  refine zk_seq ?_
  iterate 2 (refine zc_seq ?_)
  refine zc_region ?_
  refine zl_pureL rfl ?_
  refine zl_nil ?_
  refine zk_seq ?_
  refine zc_block ?_
  refine zc_midBX (ι := Value) (fun vo u => TreeOk u (fun b => w1.heap.size ≤ b) (fun b => w1.heap.size ≤ b) vo (itemsT zs len rec (1 + n0_) false a0).1 ∧ Tp w0 u bt a len cap zs (itemsT zs len rec (1 + n0_) false a0).2 ∧ Chg w1 u (· = bt)) (fun vo => [(6, vo)]) ?_ ?_
  rotate_left
  · rintro vo u ⟨g1, g2, g3⟩
    refine zc_seq ?_
    refine zc_region ?_
    iterate 2 (refine zl_pureL rfl ?_)
    refine zl_nil ?_
    refine zk_seq ?_
    refine zc_ret ?_
    have hw1 := hC1.size
    exact zk_ret1 (.inr rfl) rfl rfl ⟨_, rfl, g1.mono (fun b _ hb => Nat.le_trans hw1 hb) (fun b _ hb => Nat.le_trans hw1 hb), g2, (hC1.mono (fun _ _ h => h.elim)).trans g3 (fun _ _ h => h)⟩
  refine zc_loopW (ι := Nat × Value × NT × Nat) (fun q u => [(0, .pointer (some ⟨bt, 0, none⟩)), (1, .int .i64 lv), (5, .slice (some ⟨bn, on, none⟩) 24 cn), (6, q.2.1), (7, .int .i64 (1 + ((n0_ : Nat) : Int))), (8, .int .i64 q.1)])
    (fun q u => q.1 ≤ 1 + n0_ ∧ Out w1.heap.size (fun b => w1.heap.size ≤ b) u q.2.1 q.2.2.1 ∧ q.2.2.1.len ≤ q.1 ∧ Tp w0 u bt a len cap zs q.2.2.2 ∧ q.2.2.1.app (itemsT zs len rec (1 + n0_ - q.1) (prevB q.2.2.1 q.2.2.1.len) q.2.2.2).1 = (itemsT zs len rec (1 + n0_) false a0).1 ∧
      (itemsT zs len rec (1 + n0_ - q.1) (prevB q.2.2.1 q.2.2.1.len) q.2.2.2).2 = (itemsT zs len rec (1 + n0_) false a0).2 ∧ Chg w1 u (· = bt)) (fun q u => 1 + n0_ - q.1) (0, .slice none 0 0, .nil, a0)
    ⟨Nat.zero_le _, Out.nil, Nat.le_refl _, h2, rfl, rfl, hC2⟩ ?_ ?_
  · exact ⟨rfl, rfl, rfl, rfl, rfl, rfl, trivial⟩
  rintro ⟨i, vo, T, at1⟩ u ⟨hi, hOut, hTl, hT, hd1, hd2, hC⟩
  dsimp only at hi hOut hTl hT hd1 hd2 ⊢
  have hw1 := hC1.size
  by_cases hlt : i < 1 + n0_
  rotate_left
  · have : 1 + n0_ - i = 0 := by omega
    rw [this] at hd1 hd2
    simp only [itemsT, NT.app_nil] at hd1 hd2
    iterate 2 (refine zc_seq ?_)
    refine zc_region ?_
    iterate 2 (refine zl_pureL rfl ?_)
    refine z_cmpB (r := false) want_none (by decide) rfl rfl rfl (iff_of_false Bool.false_ne_true (by omega)) ?_
    iterate 2 (refine zl_pureL rfl ?_)
    refine zl_skip rfl ?_
    refine zl_pureL rfl ?_
    refine zl_nil ?_
    refine zk_seq ?_
    refine zc_false rfl ?_
    refine zc_exit ?_
    iterate 2 (refine zk_exit_then ?_)
    refine zk_exit_block ?_
    exact zk_midX vo ⟨hd1 ▸ hOut.tree, hd2 ▸ hT, hC⟩ ⟨rfl, trivial⟩
  iterate 2 (refine zc_seq ?_)
  refine zc_region ?_
  iterate 2 (refine zl_pureL rfl ?_)
  refine z_cmpB (r := true) want_none (by decide) rfl rfl rfl (iff_of_true rfl (by omega)) ?_
  iterate 2 (refine zl_pureL rfl ?_)
  refine zl_call (by first | exact want_none | exact want_L rfl) rfl (by decide) rfl (more_calls hT) ?_
  rintro _ u1 ⟨rfl, hCm⟩
  refine ⟨_, rfl, ?_⟩
  have hT1 := hT.no hCm
  have hOut1 := hOut.no hCm
  by_cases hat : at1 < len
  rotate_left
  · rw [itemsT_end hat, NT.app_nil] at hd1
    rw [itemsT_end hat] at hd2
    dsimp only at hd1 hd2
    rw [decide_eq_false hat]
    refine zl_pureL rfl ?_
    refine zl_nil ?_
    refine zk_seq ?_
    refine zc_false rfl ?_
    refine zc_exit ?_
    iterate 2 (refine zk_exit_then ?_)
    refine zk_exit_block ?_
    exact zk_midX vo ⟨hd1 ▸ hOut1.tree, hd2 ▸ hT1, hC.no hCm⟩ ⟨rfl, trivial⟩
  rw [decide_eq_true hat]
  obtain ⟨m, hm⟩ : ∃ m, 1 + n0_ - i = m + 1 := ⟨1 + n0_ - i - 1, by omega⟩
  have hm' : 1 + n0_ - (i + 1) = m := by omega
  rw [hm] at hd1 hd2
  refine zl_pureL rfl ?_
  refine zl_nil ?_
  refine zk_seq ?_
  refine zc_true rfl ?_
  refine zc_skip ?_
  refine zk_seq ?_
  refine zc_seq ?_
  refine zc_block ?_
  refine zc_seq ?_
  refine zc_region ?_
  refine zl_pureL rfl ?_
  refine zl_call (by first | exact want_none | exact want_L rfl) rfl (by decide) rfl (next'_calls hT1 6 (by decide) (by decide) rfl) ?_
  rintro _ u2 ⟨rfl, hT2, hC2u⟩
  refine ⟨_, rfl, ?_⟩
  have hq1 := nx_lt zs len at1 6 (by decide)
  rcases hnx1 : nx zs len at1 6 with ⟨k1, a1⟩
  rw [hnx1] at hT2 hq1
  dsimp only at hT2 hq1 ⊢
  have hOut2 := hOut1.blk hT1.blk hC2u (by decide) (by decide)
  have hC2' : Chg w1 u2 (· = bt) := (hC.no hCm).trans hC2u (fun _ _ h => h)
  have hBu : w1.heap.size ≤ u2.heap.size := hC2'.size
  obtain ⟨A0, c0, hvo, hc0⟩ := hOut2.form
  subst hvo
  refine zl_pureL rfl ?_
  refine zl_nil ?_
  refine zk_seq ?_
  refine zc_block ?_
  refine zc_mid (fun u' => u' = u2) [(0, .pointer (some ⟨bt, 0, none⟩)), (1, .int .i64 lv), (5, .slice (some ⟨bn, on, none⟩) 24 cn), (6, .slice A0 T.len c0), (7, .int .i64 (1 + ((n0_ : Nat) : Int))), (8, .int .i64 i), (9, .int .i64 k1), (80, .bool (decide (k1 < 2 ∧ prevB T T.len = false)))] ?_ ?_
  · by_cases hk : k1 < 2
    · by_cases h0 : T.len = 0
      · rw [decide_eq_true (show k1 < 2 ∧ prevB T T.len = false from ⟨hk, by rw [h0]; rfl⟩)]
        refine zc_region ?_
        refine zl_pureL rfl ?_
        refine z_cmpB (r := true) want_none (by decide) rfl rfl rfl (iff_of_true rfl (by omega)) ?_
        iterate 2 (refine zl_pureL rfl ?_)
        refine z_len (want_L rfl) (by decide) rfl ?_
        refine z_cmpB (r := true) (want_L rfl) (by decide) rfl rfl rfl (iff_of_true rfl (by omega)) ?_
        iterate 3 (refine zl_pureL rfl ?_)
        iterate 6 (refine zl_skip rfl ?_)
        iterate 3 (refine zl_pureL rfl ?_)
        refine zl_nil ?_
        exact zk_mid rfl ⟨rfl, rfl, rfl, rfl, rfl, rfl, rfl, rfl, trivial⟩
      · obtain ⟨j, hj⟩ : ∃ j, T.len = j + 1 := ⟨T.len - 1, by omega⟩
        obtain ⟨b9, o9, c9, x9, k9, r9, A9, K9, e9, hv9, hN9, _, _⟩ := hOut2.tree.at'.at_ j (by omega)
        cases hv9
        have hpb : prevB T T.len = decide (x9.kind = 2) := by rw [hj]; exact prevB_succ e9
        have hg9 := hN9.c0
        refine zc_region ?_
        refine zl_pureL rfl ?_
        refine z_cmpB (r := true) want_none (by decide) rfl rfl rfl (iff_of_true rfl (by omega)) ?_
        iterate 2 (refine zl_pureL rfl ?_)
        refine z_len (want_L rfl) (by decide) rfl ?_
        refine z_cmpB (r := false) (want_L rfl) (by decide) rfl rfl rfl (iff_of_false Bool.false_ne_true (by omega)) ?_
        iterate 3 (refine zl_pureL rfl ?_)
        refine z_len (want_L rfl) (by decide) rfl ?_
        refine z_sub (want_L rfl) (by decide) rfl rfl (by omega) (by omega) ?_
        refine z_ia (want_L rfl) (by decide) rfl rfl (by omega) (by omega) ?_
        refine z_fa (want_L rfl) (by decide) rfl ?_
        refine z_load1 (by first | exact want_none | exact want_L rfl) (by decide) rfl (cell_at hg9 (by omega)) ?_
        by_cases hk9 : x9.kind = 2
        · rw [decide_eq_false (show ¬ (k1 < 2 ∧ prevB T T.len = false) from fun hh => by rw [hpb, decide_eq_true hk9] at hh; exact absurd hh.2 (by decide))]
          refine z_cmpB (r := false) (want_L rfl) (by decide) rfl rfl rfl (iff_of_false Bool.false_ne_true (by omega)) ?_
          iterate 3 (refine zl_pureL rfl ?_)
          refine zl_nil ?_
          exact zk_mid rfl ⟨rfl, rfl, rfl, rfl, rfl, rfl, rfl, rfl, trivial⟩
        · rw [decide_eq_true (show k1 < 2 ∧ prevB T T.len = false from ⟨hk, by rw [hpb, decide_eq_false hk9]⟩)]
          refine z_cmpB (r := true) (want_L rfl) (by decide) rfl rfl rfl (iff_of_true rfl (by omega)) ?_
          iterate 3 (refine zl_pureL rfl ?_)
          refine zl_nil ?_
          exact zk_mid rfl ⟨rfl, rfl, rfl, rfl, rfl, rfl, rfl, rfl, trivial⟩
    · rw [decide_eq_false (show ¬ (k1 < 2 ∧ prevB T T.len = false) from fun hh => hk hh.1)]
      refine zc_region ?_
      refine zl_pureL rfl ?_
      refine z_cmpB (r := false) want_none (by decide) rfl rfl rfl (iff_of_false Bool.false_ne_true (by omega)) ?_
      iterate 2 (refine zl_pureL rfl ?_)
      iterate 2 (refine zl_skip rfl ?_)
      iterate 3 (refine zl_pureL rfl ?_)
      iterate 6 (refine zl_skip rfl ?_)
      iterate 3 (refine zl_pureL rfl ?_)
      refine zl_nil ?_
      exact zk_mid rfl ⟨rfl, rfl, rfl, rfl, rfl, rfl, rfl, rfl, trivial⟩
  rintro u' hu'
  obtain rfl := hu'.symm
  refine zc_cond rfl (fun htt => ?_) (fun hff => ?_)
  · have htt : k1 < 2 ∧ prevB T T.len = false := of_decide_eq_true htt
    refine zc_region ?_
    refine zl_pureL rfl ?_
    refine z_bsE txC (by first | exact want_none | exact want_L rfl) (by decide) rfl (by decide) (by decide) (by kernel_rfl) (fun u3 b3 hN3 => ?_)
    refine zl_pureL rfl ?_
    refine zl_call (by first | exact want_none | exact want_L rfl) rfl (by decide) rfl (next'_calls (hT2.no hN3.chg) 8 (by decide) (by decide) rfl) ?_
    rintro _ u4 ⟨rfl, hT4, hC4⟩
    refine ⟨_, rfl, ?_⟩
    have hq4 := nx_lt zs len a1 8 (by decide)
    rcases hnx4 : nx zs len a1 8 with ⟨v, a2⟩
    rw [hnx4] at hT4 hq4
    dsimp only at hT4 hq4 ⊢
    have hb4 := hN3.blk.chg hC4 (fun he => hN3.blk.ne (hT2.no hN3.chg).blk (by decide) he)
    have hg4 := (hb4.cell v).trans (txC_get v hq4)
    have hOut4 := (hOut2.no hN3.chg).blk (hT2.no hN3.chg).blk hC4 (by decide) (by decide)
    obtain ⟨ms, g1, g2, g3⟩ := hOut4
    have hml := Rows.len _ ms (RowsOk.rows _ ms g3)
    refine z_ia want_none (by decide) rfl rfl (by omega) (by omega) ?_
    refine z_load1 (by first | exact want_none | exact want_L rfl) (by decide) rfl (cell_at hg4 (by omega)) ?_
    skip
    refine z_buildE #[.int .i64 2, .int .i64 0, .string ⟨#[]⟩, .slice none 0 0, .string (txT v), .int .i64 0, .slice none 0 0] (by first | exact want_none | exact want_L rfl) (by decide) rfl (by kernel_rfl) ?_
    refine z_bs1 (by first | exact want_none | exact want_L rfl) (by decide) rfl (by rfl) (by rfl) (by decide) (by decide) (fun u5 b5 hN5 => ?_)
    have hx : HR u4 ⟨2, 0, ⟨#[]⟩, .slice none 0 0, txT v, 0, .slice none 0 0⟩ ⟨2, 0, ⟨#[]⟩, [], txT v, 0⟩ := ⟨rfl, rfl, rfl, AttrS.nil _, rfl, rfl⟩
    refine z_appendO (by rfl) (by decide) (by first | exact want_none | exact want_L rfl) (by decide) rfl rfl (g1.no hN5.chg) (RdS.node (ks := []) hx RdS.nil hN5) (by omega) (by omega) (fun v6 u6 hO6 hC6 hr6 => ?_)
    have hu24 : u2.heap.size ≤ u4.heap.size := Nat.le_trans hN3.chg.size hC4.size
    have hOut6 := Out.push g1 g2 g3 hx (fun hl => absurd hl (by simp)) TreeOk.nil (Nat.le_trans hBu hu24) hN5.chg hO6 hC6 hr6
    have hC06 : Chg w1 u6 (· = bt) := ((((hC2'.no hN3.chg).trans hC4 (fun _ _ h => h))).no hN5.chg).trans hC6 (fun j hj he => by have := g2 j he; omega)
    have hT6 := (hT4.no hN5.chg).oth hC6 (fun he => (g1.no hN5.chg).ne he (hT4.no hN5.chg).blk (by decide) rfl) (fun k hk => by have := g2 k hk; omega)
    rw [itemsT_text hat hnx1 htt.1 htt.2 hnx4] at hd1 hd2
    refine zl_pureL rfl ?_
    refine zl_nil ?_
    iterate 2 (refine zk_norm_block ?_)
    refine zk_seq ?_
    refine zc_region ?_
    refine zl_pureL rfl ?_
    refine z_add want_none (by decide) rfl rfl (by omega) (by omega) ?_
    refine zl_pureL rfl ?_
    refine zl_nil ?_
    refine zk_loopW (i + 1, v6, T.snoc ⟨2, 0, ⟨#[]⟩, [], txT v, 0⟩ .nil, a2) ⟨by omega, hOut6, by dsimp only; rw [NT.snoc_len]; omega, hT6, ?_, ?_, hC06⟩ (by show 1 + n0_ - (i + 1) < 1 + n0_ - i; omega) ⟨rfl, rfl, rfl, rfl, rfl, get_int rfl (by omega), trivial⟩
    · dsimp only
      rw [prevB_snoc, NT.snoc_app, hm', ← hd1]; rfl
    · dsimp only
      rw [prevB_snoc, hm', ← hd2]; rfl
  have hff : ¬ (k1 < 2 ∧ prevB T T.len = false) := of_decide_eq_false hff
  by_cases hk2 : k1 = 2
  · refine zc_seq ?_
    refine zc_region ?_
    refine zl_pureL rfl ?_
    refine z_cmpB (r := true) want_none (by decide) rfl rfl rfl (iff_of_true rfl (by omega)) ?_
    refine zl_pureL rfl ?_
    refine zl_nil ?_
    refine zk_seq ?_
    refine zc_true rfl ?_
    refine zc_region ?_
    refine zl_pureL rfl ?_
    refine z_bsE ntC (by first | exact want_none | exact want_L rfl) (by decide) rfl (by decide) (by decide) (by kernel_rfl) (fun u3 b3 hN3 => ?_)
    refine zl_pureL rfl ?_
    refine zl_call (by first | exact want_none | exact want_L rfl) rfl (by decide) rfl (next'_calls (hT2.no hN3.chg) 2 (by decide) (by decide) rfl) ?_
    rintro _ u4 ⟨rfl, hT4, hC4⟩
    refine ⟨_, rfl, ?_⟩
    have hq4 := nx_lt zs len a1 2 (by decide)
    rcases hnx4 : nx zs len a1 2 with ⟨v, a2⟩
    rw [hnx4] at hT4 hq4
    dsimp only at hT4 hq4 ⊢
    have hb4 := hN3.blk.chg hC4 (fun he => hN3.blk.ne (hT2.no hN3.chg).blk (by decide) he)
    have hg4 := (hb4.cell v).trans (ntC_get v hq4)
    have hOut4 := (hOut2.no hN3.chg).blk (hT2.no hN3.chg).blk hC4 (by decide) (by decide)
    obtain ⟨ms, g1, g2, g3⟩ := hOut4
    have hml := Rows.len _ ms (RowsOk.rows _ ms g3)
    refine z_ia want_none (by decide) rfl rfl (by omega) (by omega) ?_
    refine z_load1 (by first | exact want_none | exact want_L rfl) (by decide) rfl (cell_at hg4 (by omega)) ?_
    skip
    refine z_buildE #[.int .i64 3, .int .i64 0, .string ⟨#[]⟩, .slice none 0 0, .string (ntT v), .int .i64 0, .slice none 0 0] (by first | exact want_none | exact want_L rfl) (by decide) rfl (by kernel_rfl) ?_
    refine z_bs1 (by first | exact want_none | exact want_L rfl) (by decide) rfl (by rfl) (by rfl) (by decide) (by decide) (fun u5 b5 hN5 => ?_)
    have hx : HR u4 ⟨3, 0, ⟨#[]⟩, .slice none 0 0, ntT v, 0, .slice none 0 0⟩ ⟨3, 0, ⟨#[]⟩, [], ntT v, 0⟩ := ⟨rfl, rfl, rfl, AttrS.nil _, rfl, rfl⟩
    refine z_appendO (by rfl) (by decide) (by first | exact want_none | exact want_L rfl) (by decide) rfl rfl (g1.no hN5.chg) (RdS.node (ks := []) hx RdS.nil hN5) (by omega) (by omega) (fun v6 u6 hO6 hC6 hr6 => ?_)
    have hu24 : u2.heap.size ≤ u4.heap.size := Nat.le_trans hN3.chg.size hC4.size
    have hOut6 := Out.push g1 g2 g3 hx (fun hl => absurd hl (by simp)) TreeOk.nil (Nat.le_trans hBu hu24) hN5.chg hO6 hC6 hr6
    have hC06 : Chg w1 u6 (· = bt) := ((((hC2'.no hN3.chg).trans hC4 (fun _ _ h => h))).no hN5.chg).trans hC6 (fun j hj he => by have := g2 j he; omega)
    have hT6 := (hT4.no hN5.chg).oth hC6 (fun he => (g1.no hN5.chg).ne he (hT4.no hN5.chg).blk (by decide) rfl) (fun k hk => by have := g2 k hk; omega)
    rw [itemsT_note hat hnx1 hk2 hnx4] at hd1 hd2
    refine zl_pureL rfl ?_
    refine zl_nil ?_
    iterate 2 (refine zk_norm_block ?_)
    refine zk_seq ?_
    refine zc_region ?_
    refine zl_pureL rfl ?_
    refine z_add want_none (by decide) rfl rfl (by omega) (by omega) ?_
    refine zl_pureL rfl ?_
    refine zl_nil ?_
    refine zk_loopW (i + 1, v6, T.snoc ⟨3, 0, ⟨#[]⟩, [], ntT v, 0⟩ .nil, a2) ⟨by omega, hOut6, by dsimp only; rw [NT.snoc_len]; omega, hT6, ?_, ?_, hC06⟩ (by show 1 + n0_ - (i + 1) < 1 + n0_ - i; omega) ⟨rfl, rfl, rfl, rfl, rfl, get_int rfl (by omega), trivial⟩
    · dsimp only
      rw [prevB_snoc, NT.snoc_app, hm', ← hd1]; rfl
    · dsimp only
      rw [prevB_snoc, hm', ← hd2]; rfl
  refine zc_seq ?_
  refine zc_region ?_
  refine zl_pureL rfl ?_
  refine z_cmpB (r := false) want_none (by decide) rfl rfl rfl (iff_of_false Bool.false_ne_true (by omega)) ?_
  refine zl_pureL rfl ?_
  refine zl_nil ?_
  refine zk_seq ?_
  refine zc_false rfl ?_
  refine zc_seq ?_
  refine zc_region ?_
  iterate 3 (refine zl_pureL rfl ?_)
  refine z_len want_none (by decide) rfl ?_
  refine zl_call (by first | exact want_none | exact want_L rfl) rfl (by decide) rfl (next'_calls hT2 24 (by decide) (by decide) rfl) ?_
  rintro _ u3 ⟨rfl, hT3, hC3⟩
  refine ⟨_, rfl, ?_⟩
  have hq3 := nx_lt zs len a1 24 (by decide)
  rcases hnx3 : nx zs len a1 24 with ⟨nk, a2⟩
  rw [hnx3] at hT3 hq3
  dsimp only at hT3 hq3 ⊢
  have hOut3 := hOut2.blk hT2.blk hC3 (by decide) (by decide)
  have hC3' : Chg w1 u3 (· = bt) := hC2'.trans hC3 (fun _ _ h => h)
  have hgn : u3.cell? ⟨bn, on + nk, none⟩ = some (.string (bs (mdN.getD nk []))) := cell_chg hC3' hnbt (hcn nk _ (cellsS_at mdN nk (by rw [mdN_len]; exact hq3)))
  obtain ⟨nm, hnm⟩ : ∃ nm, nm = mdN.getD nk [] := ⟨_, rfl⟩
  rw [← hnm] at hgn
  refine z_ia want_none (by decide) rfl rfl (by omega) (by omega) ?_
  refine z_load1 (by first | exact want_none | exact want_L rfl) (by decide) rfl (cell_at hgn (by omega)) ?_
  skip
  refine z_buildE #[.int .i64 1, .int .i64 1, .string (bs nm), .slice none 0 0, .string ⟨#[]⟩, .int .i64 0, .slice none 0 0] (by first | exact want_none | exact want_L rfl) (by decide) rfl (by kernel_rfl) ?_
  refine z_alloc (by first | exact want_none | exact want_L rfl) (by decide) (fun u4 b10 hN4 => ?_)
  have hb4 : Blk u4 b10 48 [.int .i64 0, .int .i64 0, .string ⟨#[]⟩, .slice none 0 0, .string ⟨#[]⟩, .int .i64 0, .slice none 0 0] := hN4.blk
  skip
  refine z_store (by first | exact want_none | exact want_L rfl) rfl rfl rfl (by assumption) (by first | exact Nat.le_refl _ | simp [Value.cells]) (by simp [Value.cells, Value.oneCell']) (fun u5 hU5 => ?_)
  have hb5 : Blk u5 b10 48 [.int .i64 1, .int .i64 ((1 : Nat) : Int), .string (bs nm), .slice none 0 0, .string ⟨#[]⟩, .int .i64 0, .slice none 0 0] := hU5.blk
  have hge10 : u3.heap.size ≤ b10 := Nat.le_of_eq hN4.at_.symm
  have hC35 : Chg u3 u5 No := hN4.chg.upd hU5 hge10
  have hT5 := hT3.no hC35
  have hwu3 : w1.heap.size ≤ u3.heap.size := hC3'.size
  refine zl_nil ?_
  refine zk_seq ?_
  refine zc_midX (ι := Unit) (fun _ u' => Blk u' b10 48 [.int .i64 1, .int .i64 ((elS zs len a2).1 : Nat), .string (bs nm), .slice none 0 0, .string ⟨#[]⟩, .int .i64 0, .slice none 0 0] ∧ Tp w0 u' bt a len cap zs (elS zs len a2).2 ∧ Chg u3 u' (· = bt)) (fun _ => [(0, .pointer (some ⟨bt, 0, none⟩)), (1, .int .i64 lv), (5, .slice (some ⟨bn, on, none⟩) 24 cn), (6, .slice A0 T.len c0), (7, .int .i64 (1 + ((n0_ : Nat) : Int))), (8, .int .i64 i), (10, .pointer (some ⟨b10, 0, none⟩))]) ?_ ?_
  · refine zc_seq ?_
    refine zc_region ?_
    refine zl_pureL rfl ?_
    refine zl_call (by first | exact want_none | exact want_L rfl) rfl (by decide) rfl (next'_calls hT5 6 (by decide) (by decide) rfl) ?_
    rintro _ u6 ⟨rfl, hT6, hC6⟩
    refine ⟨_, rfl, ?_⟩
    have hb6 := hb5.chg hC6 (fun he => hb5.ne hT5.blk (by decide) he)
    have hC6' : Chg u3 u6 (· = bt) := (hC35.mono (fun _ _ h => h.elim)).trans hC6 (fun _ _ h => h)
    rcases hnx6 : nx zs len a2 6 with ⟨s6, a6⟩
    rw [hnx6] at hT6
    dsimp only at hT6 ⊢
    by_cases hs6 : s6 = 0
    · subst hs6
      refine z_cmpB (r := true) want_none (by decide) rfl rfl rfl (iff_of_true rfl (by omega)) ?_
      refine zl_nil ?_
      refine zk_seq ?_
      refine zc_true rfl ?_
      refine zc_region ?_
      refine zl_pureL rfl ?_
      refine zl_call (by first | exact want_none | exact want_L rfl) rfl (by decide) rfl (next'_calls hT6 3 (by decide) (by decide) rfl) ?_
      rintro _ u7 ⟨rfl, hT7, hC7⟩
      refine ⟨_, rfl, ?_⟩
      have hb7 := hb6.chg hC7 (fun he => hb6.ne hT6.blk (by decide) he)
      have hq7 := nx_lt zs len a6 3 (by decide)
      rcases hnx7 : nx zs len a6 3 with ⟨s7, a7⟩
      rw [hnx7] at hT7 hq7
      dsimp only at hT7 hq7 ⊢
      have e7 : elS zs len a2 = (1 + s7, a7) := by unfold elS; rw [hnx6]; dsimp only; rw [if_pos rfl, hnx7]
      rw [e7]
      refine z_add want_none (by decide) rfl rfl (by omega) (by omega) ?_
      refine z_fa want_none (by decide) rfl ?_
      refine z_store (by first | exact want_none | exact want_L rfl) rfl rfl rfl (by assumption) (by first | exact Nat.le_refl _ | simp [Value.cells]) (by simp [Value.cells, Value.oneCell']) (fun u8 hU8 => ?_)
      have hb8 : Blk u8 b10 48 [.int .i64 1, .int .i64 ((1 + s7 : Nat) : Int), .string (bs nm), .slice none 0 0, .string ⟨#[]⟩, .int .i64 0, .slice none 0 0] := hU8.blk
      have hT8 := hT7.oth hU8.chg (fun he => hb7.ne hT7.blk (by decide) he.symm) (fun k hk => by have := hT3.chg.size; omega)
      refine zl_nil ?_
      exact zk_midX () ⟨hb8, hT8, (hC6'.trans hC7 (fun _ _ h => h)).trans hU8.chg (fun j hj he => by omega)⟩ ⟨rfl, rfl, rfl, rfl, rfl, rfl, rfl, trivial⟩
    · have e6 : elS zs len a2 = (1, a6) := by unfold elS; rw [hnx6]; dsimp only; rw [if_neg hs6]
      rw [e6]
      refine z_cmpB (r := false) want_none (by decide) rfl rfl rfl (iff_of_false Bool.false_ne_true (by omega)) ?_
      refine zl_nil ?_
      refine zk_seq ?_
      refine zc_false rfl ?_
      refine zc_skip ?_
      exact zk_midX () ⟨hb6, hT6, hC6'⟩ ⟨rfl, rfl, rfl, rfl, rfl, rfl, rfl, trivial⟩
  rintro ⟨⟩ u6 ⟨hb6, hT6, hC6⟩
  rcases hes : elS zs len a2 with ⟨s, a3⟩
  rw [hes] at hb6 hT6
  dsimp only at hb6 hT6
  have hO6 : Own u6 45 2 (.slice none 0 0) ([] : List At).length (encA []) := Own.nil
  have hnew6 : ∀ k, (Value.slice none 0 0).ownBlock = some k → u3.heap.size ≤ k := fun k hk => by cases hk
  have hl6 : ([] : List At).length ≤ 1 := by decide
  refine zc_midX (ι := Value) (fun vb u' => Blk u' b10 48 [.int .i64 1, .int .i64 (s : Nat), .string (bs nm), vb, .string ⟨#[]⟩, .int .i64 0, .slice none 0 0] ∧ Own u' 45 2 vb (([] : List At) ++ (elC zs len a3).1).length (encA (([] : List At) ++ (elC zs len a3).1)) ∧ Tp w0 u' bt a len cap zs (elC zs len a3).2 ∧ Chg u3 u' (· = bt) ∧ ∀ k, vb.ownBlock = some k → u3.heap.size ≤ k) (fun _ => [(0, .pointer (some ⟨bt, 0, none⟩)), (1, .int .i64 lv), (5, .slice (some ⟨bn, on, none⟩) 24 cn), (6, .slice A0 T.len c0), (7, .int .i64 (1 + ((n0_ : Nat) : Int))), (8, .int .i64 i), (10, .pointer (some ⟨b10, 0, none⟩))]) ?_ ?_
  · refine zc_seq ?_
    refine zc_region ?_
    refine zl_pureL rfl ?_
    refine zl_call (by first | exact want_none | exact want_L rfl) rfl (by decide) rfl (next'_calls hT6 3 (by decide) (by decide) rfl) ?_
    rintro _ uk ⟨rfl, hTk, hCkk⟩
    refine ⟨_, rfl, ?_⟩
    have hbk := hb6.chg hCkk (fun he => hb6.ne hT6.blk (by decide) he)
    have hOk := hO6.chg hCkk (fun k hk he => hO6.ne hk hT6.blk (by decide) he)
    have hCk : Chg u3 uk (· = bt) := hC6.trans hCkk (fun _ _ h => h)
    rcases hnxk : nx zs len a3 3 with ⟨ck, ak⟩
    rw [hnxk] at hTk
    dsimp only at hTk ⊢
    by_cases hck : ck = 0
    rotate_left
    · have ek : elC zs len a3 = ([], ak) := by unfold elC; rw [hnxk]; dsimp only; rw [if_neg hck]
      rw [ek]
      refine z_cmpB (r := false) want_none (by decide) rfl rfl rfl (iff_of_false Bool.false_ne_true (by omega)) ?_
      refine zl_nil ?_
      refine zk_seq ?_
      refine zc_false rfl ?_
      refine zc_skip ?_
      exact zk_midX (.slice none 0 0) ⟨hbk, by rw [List.append_nil]; exact hOk, hTk, hCk, hnew6⟩ ⟨rfl, rfl, rfl, rfl, rfl, rfl, rfl, trivial⟩
    subst hck
    refine z_cmpB (r := true) want_none (by decide) rfl rfl rfl (iff_of_true rfl (by omega)) ?_
    refine zl_nil ?_
    refine zk_seq ?_
    refine zc_true rfl ?_
    refine zc_draw [11] (fun w' => Blk w' b10 48 [.int .i64 1, .int .i64 (s : Nat), .string (bs nm), .slice none 0 0, .string ⟨#[]⟩, .int .i64 0, .slice none 0 0]) (.take 0 (.take 1 (.take 3 (.all2 2 (.all1 4 (.take 5 (.all1 6 (.take 7 (.all1 8 (.all1 9 (.take 10 (.last 11)))))))) 4 (.all1 2 (.take 5 (.all1 6 (.take 7 (.all1 8 (.all1 9 (.take 10 (.last 11)))))))))))) (by rfl) (by kernel_rfl) (by kernel_rfl) (fun z2 hZ2 _ => ⟨?_, ?_⟩)
    · exact hbk.no hZ2
    have hT2z := hTk.no hZ2
    have hO2z := hOk.no hZ2
    have hb2z := hbk.no hZ2
    refine zs_rdL rfl want_none rfl (by decide) (fun _ hS => r_fa rfl) ?_
    refine zs_rdL rfl want_none rfl (by decide) (fun _ hS => r_loadB rfl hS (by rfl)) ?_
    refine zs_take rfl (zt_pure rfl ?_)
    refine zs_two ?_ ?_
    · refine zo_bsE clC rfl (by first | exact want_none | exact want_L rfl) (by decide) rfl (by decide) (by decide) (by kernel_rfl) (fun z3 b3 hM3 => ?_)
      have hb3 := hb2z.no hM3.chg
      refine ⟨hb3, ?_⟩
      have hTz := hT2z.no hM3.chg
      have hOz := hO2z.no hM3.chg
      skip
      refine zs_call rfl (by first | exact want_none | exact want_L rfl) rfl (by decide) rfl (next'_calls hTz 5 (by decide) (by decide) rfl) ?_
      rintro _ z4 ⟨rfl, hT4, hC4⟩
      have hz4 : Blk z4 b3 9 clC := hM3.blk.chg hC4 (fun he => hM3.blk.ne hTz.blk (by decide) he)
      have hb4 := hb3.chg hC4 (fun he => hb3.ne hTz.blk (by decide) he)
      have hva4 := hOz.chg hC4 (fun k hk he => hOz.ne hk hTz.blk (by decide) he)
      have hCz : Chg uk z4 (· = bt) := ((hZ2.mono (fun _ _ h => h.elim)).no hM3.chg).trans hC4 (fun _ _ h => h)
      refine ⟨_, rfl, hb4, ?_⟩
      have hq4 := nx_lt zs len ak 5 (by decide)
      rcases hnx4 : nx zs len ak 5 with ⟨v, a9⟩
      rw [hnx4] at hT4 hq4
      dsimp only at hT4 hq4 ⊢
      have ek : elC zs len a3 = ([(sCl, clT v)], a9) := by unfold elC; rw [hnxk]; dsimp only; rw [if_pos rfl, hnx4]
      rw [ek]
      refine zs_rdL rfl want_none rfl (by decide) (fun _ hS => r_ia rfl rfl (by omega) (by omega)) ?_
      refine zs_run rfl (by first | exact want_none | exact want_L rfl) rfl (by decide) (r_load1 rfl (cell_at ((hz4.cell v).trans (clC_get v hq4)) (by omega))) hb4 ?_
      skip
      refine zs_rdL rfl (by first | exact want_none | exact want_L rfl) rfl (by decide) (fun _ hS => r_build' (cells := #[.string sCl, .string (clT v)]) rfl (by kernel_rfl)) ?_
      refine zs_bs1 rfl (by first | exact want_none | exact want_L rfl) (by decide) rfl (by rfl) (by rfl) (by decide) (by decide) (fun z5 b5 hM5 => ?_)
      have hb5 := hb4.no hM5.chg
      refine ⟨hb5, ?_⟩
      have hva5 := hva4.no hM5.chg
      refine zs_appendO rfl (by rfl) (by decide) (by first | exact want_none | exact want_L rfl) (by decide) rfl rfl hva5 (RdS.new (cs := [.string sCl, .string (clT v)]) (m := 1) hM5 rfl (by simp [Value.oneCell'])) (by omega) (by omega) (fun v6 z6 hO6 hC6 hr6 => ?_)
      have hb6 := hb5.chg hC6 (fun he => hva5.ne he hb5 (by decide) rfl)
      refine ⟨hb6, ?_⟩
      obtain ⟨A6, c6, hv6, _⟩ := hO6.rd.form
      subst hv6
      refine zs_rdL rfl want_none rfl (by decide) (fun _ hS => r_fa rfl) ?_
      refine zs_storeL rfl (by first | exact want_none | exact want_L rfl) rfl rfl rfl (by assumption) (by first | exact Nat.le_refl _ | simp [Value.cells]) (by simp [Value.cells, Value.oneCell']) (fun z7 hU7 => ?_)
      have hb7 : Blk z7 b10 48 [.int .i64 1, .int .i64 (s : Nat), .string (bs nm), .slice A6 (([] : List At).length + 1) c6, .string ⟨#[]⟩, .int .i64 0, .slice none 0 0] := hU7.blk
      have hT6 := (hT4.no hM5.chg).oth hC6 (fun he => hva5.ne he (hT4.no hM5.chg).blk (by decide) rfl) (fun k hk => by have := hnew6 k hk; have := hT3.chg.size; omega)
      have hT7 := hT6.oth hU7.chg (fun he => hb6.ne hT6.blk (by decide) he.symm) (fun k hk => by have := hT3.chg.size; omega)
      have hO7 := hO6.chg hU7.chg (fun k hk he => hO6.ne hk hb6 (by decide) he)
      have hC07 : Chg u3 z7 (· = bt) := (((hCk.trans hCz (fun _ _ h => h)).no hM5.chg).trans hC6 (fun j hj he => by have := hnew6 j he; omega)).trans hU7.chg (fun j hj he => by omega)
      have hnew7 : ∀ k, (Value.slice A6 (([] : List At).length + 1) c6).ownBlock = some k → u3.heap.size ≤ k := fun k hk => by
        rcases hr6 with h5 | ⟨q, h5, h6⟩
        · exact hnew6 k (h5 ▸ hk)
        · rw [hk] at h5; cases h5; have := hCz.size; have := hM5.chg.size; have := hCk.size; omega
      skip
      refine zk_midX (.slice A6 (([] : List At).length + 1) c6) ⟨hb7, ?_, hT7, hC07, hnew7⟩ ⟨rfl, rfl, rfl, rfl, rfl, rfl, rfl, trivial⟩
      rw [List.length_append, encA_app]; exact hO7
    · refine zo_call rfl (by first | exact want_none | exact want_L rfl) rfl (by decide) rfl (next'_calls hT2z 5 (by decide) (by decide) rfl) ?_
      rintro _ z3 ⟨rfl, hT4, hC3⟩
      have hb3 := hb2z.chg hC3 (fun he => hb2z.ne hT2z.blk (by decide) he)
      refine ⟨_, rfl, hb3, ?_⟩
      skip
      refine zs_bsE clC rfl (by first | exact want_none | exact want_L rfl) (by decide) rfl (by decide) (by decide) (by kernel_rfl) (fun z4 b3 hM4 => ?_)
      have hz4 := hM4.blk
      have hb4 := hb3.no hM4.chg
      have hT4 := hT4.no hM4.chg
      have hva4 := (hO2z.chg hC3 (fun k hk he => hO2z.ne hk hT2z.blk (by decide) he)).no hM4.chg
      have hCz : Chg uk z4 (· = bt) := ((hZ2.mono (fun _ _ h => h.elim)).trans hC3 (fun _ _ h => h)).no hM4.chg
      refine ⟨hb4, ?_⟩
      have hq4 := nx_lt zs len ak 5 (by decide)
      rcases hnx4 : nx zs len ak 5 with ⟨v, a9⟩
      rw [hnx4] at hT4 hq4
      dsimp only at hT4 hq4 ⊢
      have ek : elC zs len a3 = ([(sCl, clT v)], a9) := by unfold elC; rw [hnxk]; dsimp only; rw [if_pos rfl, hnx4]
      rw [ek]
      refine zs_rdL rfl want_none rfl (by decide) (fun _ hS => r_ia rfl rfl (by omega) (by omega)) ?_
      refine zs_run rfl (by first | exact want_none | exact want_L rfl) rfl (by decide) (r_load1 rfl (cell_at ((hz4.cell v).trans (clC_get v hq4)) (by omega))) hb4 ?_
      skip
      refine zs_rdL rfl (by first | exact want_none | exact want_L rfl) rfl (by decide) (fun _ hS => r_build' (cells := #[.string sCl, .string (clT v)]) rfl (by kernel_rfl)) ?_
      refine zs_bs1 rfl (by first | exact want_none | exact want_L rfl) (by decide) rfl (by rfl) (by rfl) (by decide) (by decide) (fun z5 b5 hM5 => ?_)
      have hb5 := hb4.no hM5.chg
      refine ⟨hb5, ?_⟩
      have hva5 := hva4.no hM5.chg
      refine zs_appendO rfl (by rfl) (by decide) (by first | exact want_none | exact want_L rfl) (by decide) rfl rfl hva5 (RdS.new (cs := [.string sCl, .string (clT v)]) (m := 1) hM5 rfl (by simp [Value.oneCell'])) (by omega) (by omega) (fun v6 z6 hO6 hC6 hr6 => ?_)
      have hb6 := hb5.chg hC6 (fun he => hva5.ne he hb5 (by decide) rfl)
      refine ⟨hb6, ?_⟩
      obtain ⟨A6, c6, hv6, _⟩ := hO6.rd.form
      subst hv6
      refine zs_rdL rfl want_none rfl (by decide) (fun _ hS => r_fa rfl) ?_
      refine zs_storeL rfl (by first | exact want_none | exact want_L rfl) rfl rfl rfl (by assumption) (by first | exact Nat.le_refl _ | simp [Value.cells]) (by simp [Value.cells, Value.oneCell']) (fun z7 hU7 => ?_)
      have hb7 : Blk z7 b10 48 [.int .i64 1, .int .i64 (s : Nat), .string (bs nm), .slice A6 (([] : List At).length + 1) c6, .string ⟨#[]⟩, .int .i64 0, .slice none 0 0] := hU7.blk
      have hT6 := (hT4.no hM5.chg).oth hC6 (fun he => hva5.ne he (hT4.no hM5.chg).blk (by decide) rfl) (fun k hk => by have := hnew6 k hk; have := hT3.chg.size; omega)
      have hT7 := hT6.oth hU7.chg (fun he => hb6.ne hT6.blk (by decide) he.symm) (fun k hk => by have := hT3.chg.size; omega)
      have hO7 := hO6.chg hU7.chg (fun k hk he => hO6.ne hk hb6 (by decide) he)
      have hC07 : Chg u3 z7 (· = bt) := (((hCk.trans hCz (fun _ _ h => h)).no hM5.chg).trans hC6 (fun j hj he => by have := hnew6 j he; omega)).trans hU7.chg (fun j hj he => by omega)
      have hnew7 : ∀ k, (Value.slice A6 (([] : List At).length + 1) c6).ownBlock = some k → u3.heap.size ≤ k := fun k hk => by
        rcases hr6 with h5 | ⟨q, h5, h6⟩
        · exact hnew6 k (h5 ▸ hk)
        · rw [hk] at h5; cases h5; have := hCz.size; have := hM5.chg.size; have := hCk.size; omega
      skip
      refine zk_midX (.slice A6 (([] : List At).length + 1) c6) ⟨hb7, ?_, hT7, hC07, hnew7⟩ ⟨rfl, rfl, rfl, rfl, rfl, rfl, rfl, trivial⟩
      rw [List.length_append, encA_app]; exact hO7
  rintro va7 u7 ⟨hb7, hO7, hT7, hC7, hnew7⟩
  have hl7 : (([] : List At) ++ (elC zs len a3).1).length ≤ 1 := by unfold elC; split <;> simp
  rcases hec : elC zs len a3 with ⟨l1, a4⟩
  rw [hec] at hO7 hT7 hl7
  rw [List.nil_append] at hO7 hl7
  dsimp only at hb7 hO7 hT7 hl7
  obtain ⟨A7, c7, hv7, _⟩ := hO7.rd.form
  subst hv7
  refine zc_midX (ι := Value) (fun vb u' => Blk u' b10 48 [.int .i64 1, .int .i64 (s : Nat), .string (bs nm), vb, .string ⟨#[]⟩, .int .i64 0, .slice none 0 0] ∧ Own u' 45 2 vb (l1 ++ (elH zs len a4).1).length (encA (l1 ++ (elH zs len a4).1)) ∧ Tp w0 u' bt a len cap zs (elH zs len a4).2 ∧ Chg u3 u' (· = bt) ∧ ∀ k, vb.ownBlock = some k → u3.heap.size ≤ k) (fun _ => [(0, .pointer (some ⟨bt, 0, none⟩)), (1, .int .i64 lv), (5, .slice (some ⟨bn, on, none⟩) 24 cn), (6, .slice A0 T.len c0), (7, .int .i64 (1 + ((n0_ : Nat) : Int))), (8, .int .i64 i), (10, .pointer (some ⟨b10, 0, none⟩))]) ?_ ?_
  · refine zc_seq ?_
    refine zc_region ?_
    refine zl_pureL rfl ?_
    refine zl_call (by first | exact want_none | exact want_L rfl) rfl (by decide) rfl (next'_calls hT7 4 (by decide) (by decide) rfl) ?_
    rintro _ uk ⟨rfl, hTk, hCkk⟩
    refine ⟨_, rfl, ?_⟩
    have hbk := hb7.chg hCkk (fun he => hb7.ne hT7.blk (by decide) he)
    have hOk := hO7.chg hCkk (fun k hk he => hO7.ne hk hT7.blk (by decide) he)
    have hCk : Chg u3 uk (· = bt) := hC7.trans hCkk (fun _ _ h => h)
    rcases hnxk : nx zs len a4 4 with ⟨ck, ak⟩
    rw [hnxk] at hTk
    dsimp only at hTk ⊢
    by_cases hck : ck = 0
    rotate_left
    · have ek : elH zs len a4 = ([], ak) := by unfold elH; rw [hnxk]; dsimp only; rw [if_neg hck]
      rw [ek]
      refine z_cmpB (r := false) want_none (by decide) rfl rfl rfl (iff_of_false Bool.false_ne_true (by omega)) ?_
      refine zl_nil ?_
      refine zk_seq ?_
      refine zc_false rfl ?_
      refine zc_skip ?_
      exact zk_midX (.slice A7 l1.length c7) ⟨hbk, by rw [List.append_nil]; exact hOk, hTk, hCk, hnew7⟩ ⟨rfl, rfl, rfl, rfl, rfl, rfl, rfl, trivial⟩
    subst hck
    refine z_cmpB (r := true) want_none (by decide) rfl rfl rfl (iff_of_true rfl (by omega)) ?_
    refine zl_nil ?_
    refine zk_seq ?_
    refine zc_true rfl ?_
    refine zc_draw [11] (fun w' => Blk w' b10 48 [.int .i64 1, .int .i64 (s : Nat), .string (bs nm), .slice A7 l1.length c7, .string ⟨#[]⟩, .int .i64 0, .slice none 0 0]) (.take 0 (.take 1 (.take 3 (.all2 2 (.all1 4 (.take 5 (.all1 6 (.take 7 (.all1 8 (.all1 9 (.take 10 (.last 11)))))))) 4 (.all1 2 (.take 5 (.all1 6 (.take 7 (.all1 8 (.all1 9 (.take 10 (.last 11)))))))))))) (by rfl) (by kernel_rfl) (by kernel_rfl) (fun z2 hZ2 _ => ⟨?_, ?_⟩)
    · exact hbk.no hZ2
    have hT2z := hTk.no hZ2
    have hO2z := hOk.no hZ2
    have hb2z := hbk.no hZ2
    refine zs_rdL rfl want_none rfl (by decide) (fun _ hS => r_fa rfl) ?_
    refine zs_rdL rfl want_none rfl (by decide) (fun _ hS => r_loadB rfl hS (by rfl)) ?_
    refine zs_take rfl (zt_pure rfl ?_)
    refine zs_two ?_ ?_
    · refine zo_bsE hrC rfl (by first | exact want_none | exact want_L rfl) (by decide) rfl (by decide) (by decide) (by kernel_rfl) (fun z3 b3 hM3 => ?_)
      have hb3 := hb2z.no hM3.chg
      refine ⟨hb3, ?_⟩
      have hTz := hT2z.no hM3.chg
      have hOz := hO2z.no hM3.chg
      skip
      refine zs_call rfl (by first | exact want_none | exact want_L rfl) rfl (by decide) rfl (next'_calls hTz 4 (by decide) (by decide) rfl) ?_
      rintro _ z4 ⟨rfl, hT4, hC4⟩
      have hz4 : Blk z4 b3 9 hrC := hM3.blk.chg hC4 (fun he => hM3.blk.ne hTz.blk (by decide) he)
      have hb4 := hb3.chg hC4 (fun he => hb3.ne hTz.blk (by decide) he)
      have hva4 := hOz.chg hC4 (fun k hk he => hOz.ne hk hTz.blk (by decide) he)
      have hCz : Chg uk z4 (· = bt) := ((hZ2.mono (fun _ _ h => h.elim)).no hM3.chg).trans hC4 (fun _ _ h => h)
      refine ⟨_, rfl, hb4, ?_⟩
      have hq4 := nx_lt zs len ak 4 (by decide)
      rcases hnx4 : nx zs len ak 4 with ⟨v, a9⟩
      rw [hnx4] at hT4 hq4
      dsimp only at hT4 hq4 ⊢
      have ek : elH zs len a4 = ([(sHr, hrT v)], a9) := by unfold elH; rw [hnxk]; dsimp only; rw [if_pos rfl, hnx4]
      rw [ek]
      refine zs_rdL rfl want_none rfl (by decide) (fun _ hS => r_ia rfl rfl (by omega) (by omega)) ?_
      refine zs_run rfl (by first | exact want_none | exact want_L rfl) rfl (by decide) (r_load1 rfl (cell_at ((hz4.cell v).trans (hrC_get v hq4)) (by omega))) hb4 ?_
      skip
      refine zs_rdL rfl (by first | exact want_none | exact want_L rfl) rfl (by decide) (fun _ hS => r_build' (cells := #[.string sHr, .string (hrT v)]) rfl (by kernel_rfl)) ?_
      refine zs_bs1 rfl (by first | exact want_none | exact want_L rfl) (by decide) rfl (by rfl) (by rfl) (by decide) (by decide) (fun z5 b5 hM5 => ?_)
      have hb5 := hb4.no hM5.chg
      refine ⟨hb5, ?_⟩
      have hva5 := hva4.no hM5.chg
      refine zs_appendO rfl (by rfl) (by decide) (by first | exact want_none | exact want_L rfl) (by decide) rfl rfl hva5 (RdS.new (cs := [.string sHr, .string (hrT v)]) (m := 1) hM5 rfl (by simp [Value.oneCell'])) (by omega) (by omega) (fun v6 z6 hO6 hC6 hr6 => ?_)
      have hb6 := hb5.chg hC6 (fun he => hva5.ne he hb5 (by decide) rfl)
      refine ⟨hb6, ?_⟩
      obtain ⟨A6, c6, hv6, _⟩ := hO6.rd.form
      subst hv6
      refine zs_rdL rfl want_none rfl (by decide) (fun _ hS => r_fa rfl) ?_
      refine zs_storeL rfl (by first | exact want_none | exact want_L rfl) rfl rfl rfl (by assumption) (by first | exact Nat.le_refl _ | simp [Value.cells]) (by simp [Value.cells, Value.oneCell']) (fun z7 hU7 => ?_)
      have hb7 : Blk z7 b10 48 [.int .i64 1, .int .i64 (s : Nat), .string (bs nm), .slice A6 (l1.length + 1) c6, .string ⟨#[]⟩, .int .i64 0, .slice none 0 0] := hU7.blk
      have hT6 := (hT4.no hM5.chg).oth hC6 (fun he => hva5.ne he (hT4.no hM5.chg).blk (by decide) rfl) (fun k hk => by have := hnew7 k hk; have := hT3.chg.size; omega)
      have hT7 := hT6.oth hU7.chg (fun he => hb6.ne hT6.blk (by decide) he.symm) (fun k hk => by have := hT3.chg.size; omega)
      have hO7 := hO6.chg hU7.chg (fun k hk he => hO6.ne hk hb6 (by decide) he)
      have hC07 : Chg u3 z7 (· = bt) := (((hCk.trans hCz (fun _ _ h => h)).no hM5.chg).trans hC6 (fun j hj he => by have := hnew7 j he; omega)).trans hU7.chg (fun j hj he => by omega)
      have hnew7 : ∀ k, (Value.slice A6 (l1.length + 1) c6).ownBlock = some k → u3.heap.size ≤ k := fun k hk => by
        rcases hr6 with h5 | ⟨q, h5, h6⟩
        · exact hnew7 k (h5 ▸ hk)
        · rw [hk] at h5; cases h5; have := hCz.size; have := hM5.chg.size; have := hCk.size; omega
      skip
      refine zk_midX (.slice A6 (l1.length + 1) c6) ⟨hb7, ?_, hT7, hC07, hnew7⟩ ⟨rfl, rfl, rfl, rfl, rfl, rfl, rfl, trivial⟩
      rw [List.length_append, encA_app]; exact hO7
    · refine zo_call rfl (by first | exact want_none | exact want_L rfl) rfl (by decide) rfl (next'_calls hT2z 4 (by decide) (by decide) rfl) ?_
      rintro _ z3 ⟨rfl, hT4, hC3⟩
      have hb3 := hb2z.chg hC3 (fun he => hb2z.ne hT2z.blk (by decide) he)
      refine ⟨_, rfl, hb3, ?_⟩
      skip
      refine zs_bsE hrC rfl (by first | exact want_none | exact want_L rfl) (by decide) rfl (by decide) (by decide) (by kernel_rfl) (fun z4 b3 hM4 => ?_)
      have hz4 := hM4.blk
      have hb4 := hb3.no hM4.chg
      have hT4 := hT4.no hM4.chg
      have hva4 := (hO2z.chg hC3 (fun k hk he => hO2z.ne hk hT2z.blk (by decide) he)).no hM4.chg
      have hCz : Chg uk z4 (· = bt) := ((hZ2.mono (fun _ _ h => h.elim)).trans hC3 (fun _ _ h => h)).no hM4.chg
      refine ⟨hb4, ?_⟩
      have hq4 := nx_lt zs len ak 4 (by decide)
      rcases hnx4 : nx zs len ak 4 with ⟨v, a9⟩
      rw [hnx4] at hT4 hq4
      dsimp only at hT4 hq4 ⊢
      have ek : elH zs len a4 = ([(sHr, hrT v)], a9) := by unfold elH; rw [hnxk]; dsimp only; rw [if_pos rfl, hnx4]
      rw [ek]
      refine zs_rdL rfl want_none rfl (by decide) (fun _ hS => r_ia rfl rfl (by omega) (by omega)) ?_
      refine zs_run rfl (by first | exact want_none | exact want_L rfl) rfl (by decide) (r_load1 rfl (cell_at ((hz4.cell v).trans (hrC_get v hq4)) (by omega))) hb4 ?_
      skip
      refine zs_rdL rfl (by first | exact want_none | exact want_L rfl) rfl (by decide) (fun _ hS => r_build' (cells := #[.string sHr, .string (hrT v)]) rfl (by kernel_rfl)) ?_
      refine zs_bs1 rfl (by first | exact want_none | exact want_L rfl) (by decide) rfl (by rfl) (by rfl) (by decide) (by decide) (fun z5 b5 hM5 => ?_)
      have hb5 := hb4.no hM5.chg
      refine ⟨hb5, ?_⟩
      have hva5 := hva4.no hM5.chg
      refine zs_appendO rfl (by rfl) (by decide) (by first | exact want_none | exact want_L rfl) (by decide) rfl rfl hva5 (RdS.new (cs := [.string sHr, .string (hrT v)]) (m := 1) hM5 rfl (by simp [Value.oneCell'])) (by omega) (by omega) (fun v6 z6 hO6 hC6 hr6 => ?_)
      have hb6 := hb5.chg hC6 (fun he => hva5.ne he hb5 (by decide) rfl)
      refine ⟨hb6, ?_⟩
      obtain ⟨A6, c6, hv6, _⟩ := hO6.rd.form
      subst hv6
      refine zs_rdL rfl want_none rfl (by decide) (fun _ hS => r_fa rfl) ?_
      refine zs_storeL rfl (by first | exact want_none | exact want_L rfl) rfl rfl rfl (by assumption) (by first | exact Nat.le_refl _ | simp [Value.cells]) (by simp [Value.cells, Value.oneCell']) (fun z7 hU7 => ?_)
      have hb7 : Blk z7 b10 48 [.int .i64 1, .int .i64 (s : Nat), .string (bs nm), .slice A6 (l1.length + 1) c6, .string ⟨#[]⟩, .int .i64 0, .slice none 0 0] := hU7.blk
      have hT6 := (hT4.no hM5.chg).oth hC6 (fun he => hva5.ne he (hT4.no hM5.chg).blk (by decide) rfl) (fun k hk => by have := hnew7 k hk; have := hT3.chg.size; omega)
      have hT7 := hT6.oth hU7.chg (fun he => hb6.ne hT6.blk (by decide) he.symm) (fun k hk => by have := hT3.chg.size; omega)
      have hO7 := hO6.chg hU7.chg (fun k hk he => hO6.ne hk hb6 (by decide) he)
      have hC07 : Chg u3 z7 (· = bt) := (((hCk.trans hCz (fun _ _ h => h)).no hM5.chg).trans hC6 (fun j hj he => by have := hnew7 j he; omega)).trans hU7.chg (fun j hj he => by omega)
      have hnew7 : ∀ k, (Value.slice A6 (l1.length + 1) c6).ownBlock = some k → u3.heap.size ≤ k := fun k hk => by
        rcases hr6 with h5 | ⟨q, h5, h6⟩
        · exact hnew7 k (h5 ▸ hk)
        · rw [hk] at h5; cases h5; have := hCz.size; have := hM5.chg.size; have := hCk.size; omega
      skip
      refine zk_midX (.slice A6 (l1.length + 1) c6) ⟨hb7, ?_, hT7, hC07, hnew7⟩ ⟨rfl, rfl, rfl, rfl, rfl, rfl, rfl, trivial⟩
      rw [List.length_append, encA_app]; exact hO7
  rintro va8 u8 ⟨hb8, hO8, hT8, hC8, hnew8⟩
  have hh8 : (elH zs len a4).1.length ≤ 1 := by unfold elH; split <;> simp
  have hl8 : (l1 ++ (elH zs len a4).1).length ≤ 2 := by rw [List.length_append]; omega
  rcases heh : elH zs len a4 with ⟨l2, a5⟩
  rw [heh] at hO8 hT8 hl8
  dsimp only at hb8 hO8 hT8 hl8
  obtain ⟨l, hl⟩ : ∃ l, l = l1 ++ l2 := ⟨_, rfl⟩
  rw [← hl] at hO8 hl8
  obtain ⟨A8, c8, hv8, _⟩ := hO8.rd.form
  subst hv8
  have eEl : elT zs len a1 = (⟨1, s, bs nm, l, ⟨#[]⟩, 0⟩, a5) := by
    unfold elT
    rw [hnx3]; dsimp only
    rw [hes]; dsimp only
    rw [hec]; dsimp only
    rw [heh, hl, hnm]
  refine zc_midX (ι := Value) (fun vk u' => Blk u' b10 48 [.int .i64 1, .int .i64 (s : Nat), .string (bs nm), .slice A8 l.length c8, .string ⟨#[]⟩, .int .i64 0, vk] ∧ AttrS u' (.slice A8 l.length c8) l ∧ TreeOk u' (fun b => u3.heap.size ≤ b ∧ b ≠ b10) (fun b => u3.heap.size ≤ b) vk (rec a5).1 ∧ Tp w0 u' bt a len cap zs (rec a5).2 ∧ Chg u3 u' (· = bt)) (fun _ => [(0, .pointer (some ⟨bt, 0, none⟩)), (1, .int .i64 lv), (5, .slice (some ⟨bn, on, none⟩) 24 cn), (6, .slice A0 T.len c0), (7, .int .i64 (1 + ((n0_ : Nat) : Int))), (8, .int .i64 i), (10, .pointer (some ⟨b10, 0, none⟩))]) ?_ ?_
  · by_cases hlt6 : lv < 6
    · refine zc_seq ?_
      refine zc_region ?_
      refine zl_pureL rfl ?_
      refine z_cmpB (r := true) want_none (by decide) rfl rfl rfl (iff_of_true rfl (by omega)) ?_
      refine zl_nil ?_
      refine zk_seq ?_
      refine zc_true rfl ?_
      refine zc_region ?_
      iterate 2 (refine zl_pureL rfl ?_)
      refine z_add want_none (by decide) rfl rfl (by omega) (by omega) ?_
      refine zl_call (by first | exact want_none | exact want_L rfl) rfl (by decide) rfl (hrec hlt6 hT8) ?_
      rintro _ u9 ⟨v9, rfl, hK9, hT9, hC9⟩
      refine ⟨_, rfl, ?_⟩
      obtain ⟨A9, c9, hv9, _⟩ := hK9.at'.form
      subst hv9
      have hb9 := hb8.chg hC9 (fun he => hb8.ne hT8.blk (by decide) he)
      have ha9 : AttrS u9 (.slice A8 l.length c8) l := (hO8.chg hC9 (fun k hk he => hO8.ne hk hT8.blk (by decide) he)).rd
      have hlt10 := hb8.lt
      have hsz8 := hC8.size
      refine z_fa want_none (by decide) rfl ?_
      refine z_store (by first | exact want_none | exact want_L rfl) rfl rfl rfl (by assumption) (by first | exact Nat.le_refl _ | simp [Value.cells]) (by simp [Value.cells, Value.oneCell']) (fun u10 hU10 => ?_)
      have hb10' : Blk u10 b10 48 [.int .i64 1, .int .i64 (s : Nat), .string (bs nm), .slice A8 l.length c8, .string ⟨#[]⟩, .int .i64 0, .slice A9 (rec a5).1.len c9] := hU10.blk
      have hT10 := hT9.oth hU10.chg (fun he => hb9.ne hT9.blk (by decide) he.symm) (fun k hk => by have := hT3.chg.size; omega)
      have hK10 := (hK9.chg hU10.chg (fun b _ _ hk he => by omega) (fun b cells hk _ he => hk.ne hb9 (by decide) he)).mono (o8' := fun b => u3.heap.size ≤ b ∧ b ≠ b10) (o5' := fun b => u3.heap.size ≤ b) (fun b hb hk => ⟨by omega, by omega⟩) (fun b hb hk => by omega)
      have ha10 : AttrS u10 (.slice A8 l.length c8) l := RdS.upd ha9 hU10 (by decide)
      refine zl_nil ?_
      exact zk_midX (.slice A9 (rec a5).1.len c9) ⟨hb10', ha10, hK10, hT10, (hC8.trans hC9 (fun _ _ h => h)).trans hU10.chg (fun j hj he => by omega)⟩ ⟨rfl, rfl, rfl, rfl, rfl, rfl, rfl, trivial⟩
    · rw [hnil hlt6]
      refine zc_seq ?_
      refine zc_region ?_
      refine zl_pureL rfl ?_
      refine z_cmpB (r := false) want_none (by decide) rfl rfl rfl (iff_of_false Bool.false_ne_true (by omega)) ?_
      refine zl_nil ?_
      refine zk_seq ?_
      refine zc_false rfl ?_
      refine zc_skip ?_
      exact zk_midX (.slice none 0 0) ⟨hb8, hO8.rd, TreeOk.nil, hT8, hC8⟩ ⟨rfl, rfl, rfl, rfl, rfl, rfl, rfl, trivial⟩
  rintro vk u9 ⟨hb9, ha9, hK9, hT9, hC9⟩
  obtain ⟨A9, c9, hv9, _⟩ := hK9.at'.form
  subst hv9
  rcases hrk : rec a5 with ⟨kt, a6⟩
  rw [hrk] at hb9 hK9 hT9
  dsimp only at hb9 hK9 hT9
  have hOut9 := hOut3.blk hT3.blk hC9 (by decide) (by decide)
  have hvlt : ∀ k, (Value.slice A0 T.len c0).ownBlock = some k → k < u3.heap.size := fun k hk => by obtain ⟨ms, g1, _, _⟩ := hOut3; exact g1.lt hk
  obtain ⟨ms, g1, g2, g3⟩ := hOut9
  have hml := Rows.len _ ms (RowsOk.rows _ ms g3)
  have hsz9 := hC9.size
  refine zc_region ?_
  refine zl_pureL rfl ?_
  refine z_loadAB want_none (by decide) rfl (by assumption) (by rfl) ?_
  refine z_bs1 (by first | exact want_none | exact want_L rfl) (by decide) rfl (by rfl) (by rfl) (by decide) (by decide) (fun u11 b11 hN11 => ?_)
  have hx : HR u9 ⟨1, s, bs nm, .slice A8 l.length c8, ⟨#[]⟩, 0, .slice A9 kt.len c9⟩ ⟨1, s, bs nm, l, ⟨#[]⟩, 0⟩ := ⟨rfl, rfl, rfl, ha9, rfl, rfl⟩
  have hR : RdS u11 48 7 (.slice (some ⟨b11, 0, none⟩) 1 1) 1 (encN [⟨1, s, bs nm, .slice A8 l.length c8, ⟨#[]⟩, 0, .slice A9 kt.len c9⟩]) := by
    obtain ⟨ks, h1, _, _⟩ := hK9
    exact RdS.node hx h1 hN11
  refine z_appendO (by rfl) (by decide) (by first | exact want_none | exact want_L rfl) (by decide) rfl rfl (g1.no hN11.chg) hR (by omega) (by omega) (fun v12 u12 hO12 hC12 hr12 => ?_)
  have hOut12 := Out.push g1 g2 g3 hx (fun hl b hb => by have := hnew8 b hb; omega) (hK9.mono (fun b hb hk => ⟨by omega, fun he => by have := hvlt b he; omega⟩) (fun b hb hk => by omega)) (by omega) hN11.chg hO12 hC12 hr12
  have hC012 : Chg w1 u12 (· = bt) := ((hC3'.trans hC9 (fun _ _ h => h)).no hN11.chg).trans hC12 (fun j hj he => by have := g2 j he; omega)
  have hT12 := (hT9.no hN11.chg).oth hC12 (fun he => (g1.no hN11.chg).ne he (hT9.no hN11.chg).blk (by decide) rfl) (fun k hk => by have := g2 k hk; omega)
  rw [itemsT_elem hat hnx1 hff hk2 eEl hrk] at hd1 hd2
  refine zl_pureL rfl ?_
  refine zl_nil ?_
  iterate 2 (refine zk_norm_block ?_)
  refine zk_seq ?_
  refine zc_region ?_
  refine zl_pureL rfl ?_
  refine z_add want_none (by decide) rfl rfl (by omega) (by omega) ?_
  refine zl_pureL rfl ?_
  refine zl_nil ?_
  refine zk_loopW (i + 1, v12, T.snoc ⟨1, s, bs nm, l, ⟨#[]⟩, 0⟩ kt, a6) ⟨by omega, hOut12, by dsimp only; rw [NT.snoc_len]; omega, hT12, ?_, ?_, hC012⟩ (by show 1 + n0_ - (i + 1) < 1 + n0_ - i; omega) ⟨rfl, rfl, rfl, rfl, rfl, get_int rfl (by omega), trivial⟩
  · dsimp only
    rw [prevB_snoc, NT.snoc_app, hm', ← hd1]; rfl
  · dsimp only
    rw [prevB_snoc, hm', ← hd2]; rfl
theorem made_calls : ∀ (d : Nat) {w0 w : World} {bt : Nat} {a : Option Addr} {len cap : Nat} {zs : List Int} {at_ lv : Nat}, lv + d = 6 → Tp w0 w bt a len cap zs at_ →
    Calls Try.prog 51 [.pointer (some ⟨bt, 0, none⟩), .int .i64 lv].toArray w fun e w' => ∃ vo, e = .returned vo ∧ TreeOk w' (fun b => w.heap.size ≤ b) (fun b => w.heap.size ≤ b) vo (madeT zs len d at_).1 ∧ Tp w0 w' bt a len cap zs (madeT zs len d at_).2 ∧ Chg w w' (· = bt)
  | 0, w0, w, bt, a, len, cap, zs, at_, lv, hlv, h => made_body (rec := fun a => (.nil, a)) (by omega) (fun hh => absurd hh (by omega)) (fun _ _ => rfl) h
  | d + 1, w0, w, bt, a, len, cap, zs, at_, lv, hlv, h => made_body (rec := madeT zs len d) (by omega) (fun hh w at_ h' => by
      have := made_calls d (lv := lv + 1) (by omega) h'
      rw [show ((lv + 1 : Nat) : Int) = (lv : Int) + 1 by omega] at this
      exact this) (fun hh => absurd (by omega) hh) h
end Go.Proofs.Ytjiehalanklapaa.D
