import Derived.Test.YtjiehalanklapaaDKnown
/- DomMoves: the walk. -/
namespace Go.Proofs.Ytjiehalanklapaa.D
open Go Go.Z Go.Proofs
set_option linter.unusedVariables false
theorem IsD.notft {w : World} {p : Nat} {vl : Value} {Q : List PN} {N : List ND} (h : IsD w p vl Q N) {b t : Nat} {cs : List Value} (hb : Blk w b t cs) (h1 : t ≠ 69) (h2 : t ≠ 71) (h3 : t ≠ 75) (h4 : t ≠ 5) (h5 : t ≠ 3) : ¬ foot p vl Q b := by
  rintro (he | he | ⟨i, hi, he⟩)
  · exact hb.ne h.blk h1 he
  · exact h.row.ne he hb (Ne.symm h2) rfl
  · exact (h.at_ i (by rw [← h.len]; exact hi)).ne he hb h3 h4 h5 rfl
theorem TreeAt.wr {w w' : World} {p : Nat} {vl vl' v : Value} {Q Q' : List PN} {N : List ND} {t : NT} (ht : TreeAt w v t) (h : IsD w p vl Q N) (hw : WrD w w' p vl Q vl' Q') : TreeAt w' v t :=
  ht.chg hw.chg (fun b cells hb => h.notft hb (by decide) (by decide) (by decide) (by decide) (by decide)) (fun b cells hb => h.notft hb (by decide) (by decide) (by decide) (by decide) (by decide))
theorem DF.other {w0 w w' : World} {p : Nat} {vl : Value} {Q : List PN} {N : List ND} {S : Nat → Prop} (h : DF w0 w p vl Q N) (hc : Chg w w' S) (hS : ∀ k, foot p vl Q k → ¬ S k) (h45 : ∀ b cells, Blk w b 45 cells → ¬ S b) (hge : ∀ k, S k → w0.heap.size ≤ k) : DF w0 w' p vl Q N :=
  ⟨h.is.chg hc hS h45, h.ge, h.chg.trans hc (fun i hi hs => by have := hge i hs; omega), h.wf⟩
/-- a row of numbers beside a Doc -/
structure Sep (w0 w : World) (v : Value) (L : List Nat) (p : Nat) (vl : Value) (Q : List PN) : Prop where
  own : Own w 3 1 v L.length (intC L)
  ap : ∀ k, v.ownBlock = some k → ¬ foot p vl Q k
  ge : ∀ k, v.ownBlock = some k → w0.heap.size ≤ k
section
variable {w0 w w' w1 w2 : World} {p : Nat} {vl vl' v v' : Value} {Q Q' : List PN} {N : List ND} {L : List Nat}
theorem Sep.wr (h : Sep w0 w v L p vl Q) (hw : WrD w w' p vl Q vl' Q') : Sep w0 w' v L p vl' Q' := by
  refine ⟨h.own.chg hw.chg (fun k hk hf => h.ap k hk hf), fun k hk hf => ?_, h.ge⟩
  rcases hw.ft k hf with h1 | h1
  · exact h.ap k hk h1
  · have := h.own.lt hk; omega
theorem Sep.no (h : Sep w0 w v L p vl Q) (hc : Chg w w' No) : Sep w0 w' v L p vl Q := ⟨h.own.no hc, h.ap, h.ge⟩
theorem Sep.nil : Sep w0 w (.slice none 0 0) [] p vl Q := ⟨Own.nil, (fun k hk => by cases hk), (fun k hk => by cases hk)⟩
/-- one number more -/
theorem Sep.push (h : Sep w0 w v L p vl Q) (hD : DF w0 w p vl Q N) {k : Nat} (hO : Own w' 3 1 v' (L.length + 1) (intC L ++ [.int .i64 ((k : Nat) : Int)])) (hc : Chg w w' (fun k => v.ownBlock = some k)) (hr : v'.ownBlock = v.ownBlock ∨ ∃ k, v'.ownBlock = some k ∧ w.heap.size ≤ k) :
    Sep w0 w' v' (L ++ [k]) p vl Q ∧ DF w0 w' p vl Q N := by
  refine ⟨⟨by rw [List.length_append, intC_app]; exact hO, fun j hj hf => ?_, fun j hj => ?_⟩, hD.other hc (fun k hf he => h.ap k he hf) (fun b cells hb he => h.own.ne he hb (by decide) rfl) (fun k he => h.ge k he)⟩
  · rcases hr with h1 | ⟨i, h1, h2⟩
    · exact h.ap j (h1 ▸ hj) hf
    · rw [hj] at h1; cases h1; have := hD.is.lt j hf; omega
  · rcases hr with h1 | ⟨i, h1, h2⟩
    · exact h.ge j (h1 ▸ hj)
    · rw [hj] at h1; cases h1; have := hD.chg.size; omega
end
/-- root, a, b; kids of a, and b -/
structure MvI (N : List ND) : Prop where
  len : 3 ≤ N.length
  kind : ∀ i, i < 3 → (N.getD i n0).kind = 1
  up1 : (N.getD 1 n0).up = 0
  up2 : (N.getD 2 n0).up = 0
  big : BigT N
theorem BigT.add {N : List ND} (h : BigT N) {x : ND} (h1 : x.text.length ≤ 1000000000) (h2 : x.attrs.length ≤ 100000) : BigT (N ++ [x]) := fun i => by
  rw [getD_add]; split
  · exact ⟨h1, h2⟩
  · exact h i
theorem BigT.lay {N : List ND} (h : BigT N) {n up a : Nat} (hn : n < N.length) (hu : up < N.length) : BigT (layN N n up a) := fun i => by
  rw [layN_get hn hu]; split
  · exact h n
  · split
    · exact h up
    · exact h i
theorem mv_step {N : List ND} (h : MvI N) (hW : WF N) {x : ND} (hxu : x.up = -1) (hxk : x.kids = []) (h1 : x.text.length ≤ 1000000000) (h2 : x.attrs.length ≤ 100000) (t : Nat) (ht : t = 1 ∨ t = 2) :
    PutOk (N ++ [x]) N.length (t : Nat) (-1) ∧ ∀ N', N' = layN (N ++ [x]) (N.length : Int).toNat ((t : Nat) : Int).toNat ((placeN (ndOf (N ++ [x]) (t : Nat)).kids (-1)).getD 0) →
      MvI N' ∧ (N'.getD t n0).kids = (N.getD t n0).kids ++ [N.length] ∧ (∀ j, j < 3 → j ≠ t → (N'.getD j n0).kids = (N.getD j n0).kids) ∧ N'.length = N.length + 1 := by
  have hl := h.len
  have hWx := hW.add hxu hxk
  have gl : ∀ i, i < N.length → (N ++ [x]).getD i n0 = N.getD i n0 := fun i hi => by rw [getD_add, if_neg (by omega)]
  have gx : (N ++ [x]).getD N.length n0 = x := by rw [getD_add, if_pos rfl]
  have hll : (N ++ [x]).length = N.length + 1 := by simp
  have hn : N.length < (N ++ [x]).length := by omega
  have htl : t < (N ++ [x]).length := by omega
  have et : ndOf (N ++ [x]) (t : Nat) = N.getD t n0 := by unfold ndOf; rw [Int.toNat_natCast]; exact gl t (by omega)
  refine ⟨⟨⟨by omega, by omega⟩, ⟨by omega, by omega⟩, ?_, by omega, ?_, ?_, by rw [et]; rfl⟩, fun N' hN' => ?_⟩
  · rw [et]; exact h.kind t (by omega)
  · have : ndOf (N ++ [x]) (N.length : Nat) = x := by unfold ndOf; rw [Int.toNat_natCast]; exact gx
    rw [this, hxu]; decide
  · rw [Int.toNat_natCast, Int.toNat_natCast]
    intro ha
    have := Anc.fresh hWx htl (by rw [gx]; exact hxk) ha
    omega
  · rw [et, show (placeN (N.getD t n0).kids (-1)).getD 0 = (N.getD t n0).kids.length from rfl, Int.toNat_natCast, Int.toNat_natCast] at hN'
    have gN : ∀ i, N'.getD i n0 = if i = N.length then { x with up := (t : Nat) } else if i = t then { N.getD t n0 with kids := (N.getD t n0).kids ++ [N.length] } else (N ++ [x]).getD i n0 := fun i => by
      rw [hN', layN_get hn htl, gx, gl t (by omega)]
      unfold insK
      rw [List.take_length, List.drop_length]
    have g3 : ∀ i, i < 3 → N'.getD i n0 = if i = t then { N.getD t n0 with kids := (N.getD t n0).kids ++ [N.length] } else N.getD i n0 := fun i hi => by
      rw [gN, if_neg (by omega), gl i (by omega)]
    refine ⟨⟨by rw [hN', layN_len]; omega, fun i hi => ?_, ?_, ?_, ?_⟩, ?_, fun j hj hne => ?_, by rw [hN', layN_len]; exact hll⟩
    · rw [g3 i hi]; split
      · rename_i he; exact h.kind t (by omega)
      · exact h.kind i hi
    · rw [g3 1 (by omega)]; split
      · rename_i he; rw [← he]; exact h.up1
      · exact h.up1
    · rw [g3 2 (by omega)]; split
      · rename_i he; rw [← he]; exact h.up2
      · exact h.up2
    · rw [hN']; exact (h.big.add h1 h2).lay hn htl
    · rw [g3 t (by omega), if_pos rfl]
    · rw [g3 j hj, if_neg hne]
def mvN : List ND := [⟨1, 1, ⟨#[]⟩, [], [], -1, [1, 2]⟩, ⟨1, 1, ⟨#[97]⟩, [], [], 0, []⟩, ⟨1, 1, ⟨#[98]⟩, [], [], 0, []⟩]
theorem mvN_I : MvI mvN := ⟨by decide, by intro i hi; match i, hi with | 0, _ => rfl | 1, _ => rfl | 2, _ => rfl, rfl, rfl, BigT.of (by simp [mvN])⟩
theorem RdS.int1 {w w' : World} {b : Nat} {k : Nat} (h : New w w' b 3 [.int .i64 (k : Nat)]) : RdS w' 3 1 (.slice (some ⟨b, 0, none⟩) 1 1) 1 [.int .i64 ((k : Nat) : Int)] := RdS.new h rfl (by simp [Value.oneCell'])
theorem anc_up {N : List ND} {n m top : Nat} (hu : (N.getD n n0).up = (m : Nat)) (hne : n ≠ top) (h : Anc N n top) : Anc N m top := by
  cases h with
  | refl => exact absurd rfl hne
  | step _ m' _ hu' ha => have : m' = m := by rw [hu] at hu'; omega
                          subst this; exact ha
theorem anc_root {N : List ND} {n top : Nat} (hu : (N.getD n n0).up = -1) (h : Anc N n top) : n = top := by
  cases h with
  | refl => rfl
  | step _ m' _ hu' ha => rw [hu] at hu'; omega
set_option maxHeartbeats 16000000 in
theorem DomMoves_walk (n m : Int) (w : World) : Calls Try.prog 4 #[.int .i64 n, .int .i64 m] w fun e w' => e = .returned (.bool true) ∧ RowKit.Below w.heap.size w w' := by
  show Calls Try.prog 4 [Value.int .i64 n, .int .i64 m].toArray w _
  obtain ⟨M, hM⟩ := Int.eq_ofNat_of_zero_le (Int.emod_nonneg m (show ((9 : Nat) : Int) ≠ 0 by decide))
  obtain ⟨K, hK⟩ := Int.eq_ofNat_of_zero_le (Int.emod_nonneg n (show ((9 : Nat) : Int) ≠ 0 by decide))
  have hM9 : M < 9 := by have := Int.emod_lt_of_pos m (show (0 : Int) < ((9 : Nat) : Int) by decide); omega
  have hK9 : K < 9 := by have := Int.emod_lt_of_pos n (show (0 : Int) < ((9 : Nat) : Int) by decide); omega
  refine calls_zc (n := 118) (f := 4) (fn := Try.f4) Try.func4 rfl rfl (by simp) ?_
  refine zc_seq ?_
  refine zc_region ?_
  refine zl_pureL rfl ?_
  refine zl_nil ?_
  refine zk_seq ?_
  iterate 2 (refine zc_seq ?_)
  refine zc_region ?_
  refine zl_call (by first | exact want_none | exact want_L rfl) rfl (by decide) rfl known_calls ?_
  rintro _ w1 ⟨rfl, hC1⟩
  refine ⟨_, rfl, ?_⟩
  refine zl_pureL rfl ?_
  refine zl_nil ?_
  refine zk_seq ?_
  refine zc_false rfl ?_
  refine zc_skip ?_
  refine zk_seq ?_
  refine zc_seq ?_
  refine zc_region ?_
  refine zl_call (by first | exact want_none | exact want_L rfl) rfl (by decide) rfl (DF.new hC1) ?_
  rintro _ w2 ⟨p, vl, Q, rfl, hD⟩
  refine ⟨_, rfl, ?_⟩
  refine zl_pureL rfl ?_
  refine zl_nil ?_
  refine zk_seq ?_
  iterate 2 (refine zc_seq ?_)
  refine zc_region ?_
  refine zl_pureL rfl ?_
  refine z_eqPN (by first | exact want_none | exact want_L rfl) (by decide) rfl rfl ?_
  refine zl_nil ?_
  refine zk_seq ?_
  refine zc_false rfl ?_
  refine zc_skip ?_
  refine zk_seq ?_
  refine zc_seq ?_
  refine zc_region ?_
  refine zl_pureL rfl ?_
  refine zl_call (by first | exact want_none | exact want_L rfl) rfl (by decide) rfl (hD.elem (by decide) 1 ⟨#[97]⟩ (AttrS.nil _) (by decide)) ?_
  rintro _ w3 ⟨rfl, vl3, Q3, hD3, _⟩
  refine ⟨_, rfl, ?_⟩
  rw [show ((rootN.length : Nat) : Int) = 1 from rfl]
  refine zl_pureL rfl ?_
  refine zl_call (by first | exact want_none | exact want_L rfl) rfl (by decide) rfl (hD3.elem (by decide) 1 ⟨#[98]⟩ (AttrS.nil _) (by decide)) ?_
  rintro _ w4 ⟨rfl, vl4, Q4, hD4, _⟩
  refine ⟨_, rfl, ?_⟩
  rw [show (((rootN ++ [(⟨1, 1, ⟨#[97]⟩, [], [], -1, []⟩ : ND)]).length : Nat) : Int) = 2 from rfl]
  iterate 2 (refine zl_pureL rfl ?_)
  refine zl_nil ?_
  refine zk_seq ?_
  refine zc_seq ?_
  refine zc_region ?_
  iterate 2 (refine zl_pureL rfl ?_)
  refine zl_call (by first | exact want_none | exact want_L rfl) rfl (by decide) rfl (hD4.put (by decide) 1 0 (-1) [⟨1, 1, ⟨#[]⟩, [], [], -1, [1]⟩, ⟨1, 1, ⟨#[97]⟩, [], [], 0, []⟩, ⟨1, 1, ⟨#[98]⟩, [], [], -1, []⟩] ⟨⟨by decide, by decide⟩, ⟨by decide, by decide⟩, rfl, by decide, by decide, fun hh => absurd (anc_root rfl hh) (by decide), rfl⟩ rfl) ?_
  rintro _ w5 ⟨rfl, vl5, Q5, hD5, _⟩
  refine ⟨_, rfl, ?_⟩
  refine zl_nil ?_
  refine zk_seq ?_
  refine zc_seq ?_
  refine zc_region ?_
  iterate 2 (refine zl_pureL rfl ?_)
  refine zl_call (by first | exact want_none | exact want_L rfl) rfl (by decide) rfl (hD5.put (by decide) 2 0 (-1) mvN ⟨⟨by decide, by decide⟩, ⟨by decide, by decide⟩, rfl, by decide, by decide, fun hh => absurd (anc_root rfl hh) (by decide), rfl⟩ rfl) ?_
  rintro _ w6 ⟨rfl, vl6, Q6, hD6, _⟩
  refine ⟨_, rfl, ?_⟩
  refine zl_nil ?_
  refine zk_seq ?_
  refine zc_seq ?_
  refine zc_region ?_
  refine zl_pureL rfl ?_
  refine zl_nil ?_
  refine zk_seq ?_
  iterate 2 (refine zc_seq ?_)
  refine zc_region ?_
  refine zl_pureL rfl ?_
  refine zl_nil ?_
  refine zk_seq ?_
  refine zc_block ?_
  refine zc_midBX (ι := Value × Value × List PN × List ND) (fun q u => DF w u p q.2.1 q.2.2.1 q.2.2.2 ∧ MvI q.2.2.2 ∧ q.2.2.2.length ≤ 12 ∧ (q.2.2.2.getD 1 n0).kids = [] ∧ Sep w u q.1 (q.2.2.2.getD 2 n0).kids p q.2.1 q.2.2.1)
    (fun q => [(0, .int .i64 n), (1, .int .i64 m), (5, .pointer (some ⟨p, 0, none⟩)), (6, .int .i64 1), (7, .int .i64 2), (8, q.1)]) ?_ ?_
  · refine zc_loopW (ι := Nat × Value × Value × List PN × List ND) (fun q u => [(0, .int .i64 n), (1, .int .i64 m), (5, .pointer (some ⟨p, 0, none⟩)), (6, .int .i64 1), (7, .int .i64 2), (8, q.2.1), (9, .int .i64 q.1)])
      (fun q u => q.1 ≤ M ∧ DF w u p q.2.2.1 q.2.2.2.1 q.2.2.2.2 ∧ MvI q.2.2.2.2 ∧ q.2.2.2.2.length ≤ 3 + q.1 ∧ (q.2.2.2.2.getD 1 n0).kids = [] ∧ Sep w u q.2.1 (q.2.2.2.2.getD 2 n0).kids p q.2.2.1 q.2.2.2.1) (fun q u => M - q.1) (0, .slice none 0 0, vl6, Q6, mvN)
      ⟨Nat.zero_le _, hD6, mvN_I, (show 3 ≤ 3 + 0 from Nat.le_refl _), rfl, Sep.nil⟩ ?_ ?_
    · exact ⟨rfl, rfl, rfl, rfl, rfl, rfl, rfl, trivial⟩
    rintro ⟨i, v, vl, Q, N⟩ u ⟨hi, hD, hI, hl, hk1, hS⟩
    dsimp only at hi hD hI hl hk1 hS ⊢
    iterate 2 (refine zc_seq ?_)
    refine zc_region ?_
    iterate 2 (refine zl_pureL rfl ?_)
    refine zl_call (by first | exact want_none | exact want_L rfl) rfl (by decide) rfl (within_calls (n := 9) (by decide) (by decide)) ?_
    rintro _ u1 ⟨rfl, hu⟩
    obtain rfl := hu.symm
    refine ⟨_, rfl, ?_⟩
    rw [hM]
    by_cases hlt : i < M
    · refine z_cmpB (r := true) want_none (by decide) rfl rfl rfl (iff_of_true rfl (by omega)) ?_
      refine zl_nil ?_
      refine zk_seq ?_
      refine zc_true rfl ?_
      refine zc_skip ?_
      refine zk_seq ?_
      refine zc_seq ?_
      refine zc_block ?_
      refine zc_seq ?_
      refine zc_region ?_
      refine zl_pureL rfl ?_
      refine zl_call (by first | exact want_none | exact want_L rfl) rfl (by decide) rfl (hD.elem (by omega) 1 ⟨#[120]⟩ (AttrS.nil _) (by decide)) ?_
      rintro _ u2 ⟨rfl, vl2, Q2, hD2, hW2⟩
      refine ⟨_, rfl, ?_⟩
      obtain ⟨hok, hst⟩ := mv_step hI hD.wf (x := ⟨1, 1, ⟨#[120]⟩, [], [], -1, []⟩) rfl rfl (by decide) (by decide) 2 (.inr rfl)
      obtain ⟨X, hX⟩ := Exists.intro (p := fun X => X = _) _ (Eq.refl (layN _ _ _ _))
      obtain ⟨hI', hk', hko, hl'⟩ := hst X hX
      clear hst
      refine zl_pureL rfl ?_
      refine zl_nil ?_
      refine zk_seq ?_
      refine zc_seq ?_
      refine zc_region ?_
      iterate 3 (refine zl_pureL rfl ?_)
      refine zl_call (by first | exact want_none | exact want_L rfl) rfl (by decide) rfl (hD2.put (by simp; omega) (N.length : Nat) 2 (-1) X hok hX.symm) ?_
      rintro _ u3 ⟨rfl, vl3, Q3, hD3, hW3⟩
      refine ⟨_, rfl, ?_⟩
      have hS3 := (hS.wr hW2).wr hW3
      refine zl_nil ?_
      refine zk_seq ?_
      refine zc_region ?_
      iterate 2 (refine zl_pureL rfl ?_)
      refine z_bs1 (by first | exact want_none | exact want_L rfl) (by decide) rfl (by rfl) (by rfl) (by decide) (by decide) (fun u4 b4 hN4 => ?_)
      have hS4 := hS3.no hN4.chg
      have hD4 := hD3.no hN4.chg
      have hk2l := hD.wf.kids_len (i := 2) (by have := hI.len; omega)
      refine z_appendO (by rfl) (by decide) (by first | exact want_none | exact want_L rfl) (by decide) rfl rfl hS4.own (RdS.int1 hN4) (by omega) (by omega) (fun v5 u5 hO5 hC5 hr5 => ?_)
      obtain ⟨hS5, hD5⟩ := hS4.push hD4 hO5 hC5 hr5
      refine zl_pureL rfl ?_
      refine zl_nil ?_
      refine zk_norm_block ?_
      refine zk_seq ?_
      refine zc_region ?_
      refine zl_pureL rfl ?_
      refine z_add want_none (by decide) rfl rfl (by omega) (by omega) ?_
      refine zl_pureL rfl ?_
      refine zl_nil ?_
      refine zk_loopW (i + 1, v5, vl3, Q3, X) ⟨by omega, hD5, hI', by dsimp only; rw [hl']; omega, by dsimp only; rw [hko 1 (by decide) (by decide)]; exact hk1, by dsimp only; rw [hk']; exact hS5⟩ (by show M - (i + 1) < M - i; omega) ⟨rfl, rfl, rfl, rfl, rfl, rfl, get_int rfl (by omega), trivial⟩
    · refine z_cmpB (r := false) want_none (by decide) rfl rfl rfl (iff_of_false Bool.false_ne_true (by omega)) ?_
      refine zl_nil ?_
      refine zk_seq ?_
      refine zc_false rfl ?_
      refine zc_exit ?_
      iterate 2 (refine zk_exit_then ?_)
      refine zk_exit_block ?_
      exact zk_midX (v, vl, Q, N) ⟨hD, hI, by dsimp only; omega, hk1, hS⟩ ⟨rfl, rfl, rfl, rfl, rfl, rfl, trivial⟩
  rintro ⟨v, vl, Q, N⟩ w7 ⟨hD7, hI7, hl7, hk7, hS7⟩
  dsimp only at hD7 hI7 hl7 hk7 hS7 ⊢
  iterate 2 (refine zc_seq ?_)
  refine zc_region ?_
  refine zl_pureL rfl ?_
  refine zl_nil ?_
  refine zk_seq ?_
  refine zc_block ?_
  refine zc_midBX (ι := Value × Value × List PN × List ND) (fun q u => DF w u p q.2.1 q.2.2.1 q.2.2.2 ∧ MvI q.2.2.2 ∧ q.2.2.2.length ≤ 24 ∧ Sep w u q.1 ((q.2.2.2.getD 2 n0).kids ++ (q.2.2.2.getD 1 n0).kids) p q.2.1 q.2.2.1)
    (fun q => [(5, .pointer (some ⟨p, 0, none⟩)), (6, .int .i64 1), (7, .int .i64 2), (8, q.1)]) ?_ ?_
  · refine zc_loopW (ι := Nat × Value × Value × List PN × List ND) (fun q u => [(0, .int .i64 n), (5, .pointer (some ⟨p, 0, none⟩)), (6, .int .i64 1), (7, .int .i64 2), (8, q.2.1), (11, .int .i64 q.1)])
      (fun q u => q.1 ≤ K ∧ DF w u p q.2.2.1 q.2.2.2.1 q.2.2.2.2 ∧ MvI q.2.2.2.2 ∧ q.2.2.2.2.length ≤ 12 + q.1 ∧ Sep w u q.2.1 ((q.2.2.2.2.getD 2 n0).kids ++ (q.2.2.2.2.getD 1 n0).kids) p q.2.2.1 q.2.2.2.1) (fun q u => K - q.1) (0, v, vl, Q, N)
      ⟨Nat.zero_le _, hD7, hI7, hl7, by dsimp only; rw [hk7, List.append_nil]; exact hS7⟩ ?_ ?_
    · exact ⟨rfl, rfl, rfl, rfl, rfl, rfl, trivial⟩
    rintro ⟨i, v, vl, Q, N⟩ u ⟨hi, hD, hI, hl, hS⟩
    dsimp only at hi hD hI hl hS ⊢
    iterate 2 (refine zc_seq ?_)
    refine zc_region ?_
    iterate 2 (refine zl_pureL rfl ?_)
    refine zl_call (by first | exact want_none | exact want_L rfl) rfl (by decide) rfl (within_calls (n := 9) (by decide) (by decide)) ?_
    rintro _ u1 ⟨rfl, hu⟩
    obtain rfl := hu.symm
    refine ⟨_, rfl, ?_⟩
    rw [hK]
    by_cases hlt : i < K
    · refine z_cmpB (r := true) want_none (by decide) rfl rfl rfl (iff_of_true rfl (by omega)) ?_
      refine zl_nil ?_
      refine zk_seq ?_
      refine zc_true rfl ?_
      refine zc_skip ?_
      refine zk_seq ?_
      refine zc_seq ?_
      refine zc_block ?_
      refine zc_seq ?_
      refine zc_region ?_
      refine zl_pureL rfl ?_
      refine zl_call (by first | exact want_none | exact want_L rfl) rfl (by decide) rfl (hD.note (by omega) [110] (by decide) rfl) ?_
      rintro _ u2 ⟨rfl, vl2, Q2, hD2, hW2⟩
      refine ⟨_, rfl, ?_⟩
      obtain ⟨hok, hst⟩ := mv_step hI hD.wf (x := ⟨3, 0, ⟨#[]⟩, [], [110], -1, []⟩) rfl rfl (by decide) (by decide) 1 (.inl rfl)
      obtain ⟨X, hX⟩ := Exists.intro (p := fun X => X = _) _ (Eq.refl (layN _ _ _ _))
      obtain ⟨hI', hk', hko, hl'⟩ := hst X hX
      clear hst
      refine zl_pureL rfl ?_
      refine zl_nil ?_
      refine zk_seq ?_
      refine zc_seq ?_
      refine zc_region ?_
      iterate 3 (refine zl_pureL rfl ?_)
      refine zl_call (by first | exact want_none | exact want_L rfl) rfl (by decide) rfl (hD2.put (by simp; omega) (N.length : Nat) 1 (-1) X hok hX.symm) ?_
      rintro _ u3 ⟨rfl, vl3, Q3, hD3, hW3⟩
      refine ⟨_, rfl, ?_⟩
      have hS3 := (hS.wr hW2).wr hW3
      refine zl_nil ?_
      refine zk_seq ?_
      refine zc_region ?_
      iterate 2 (refine zl_pureL rfl ?_)
      refine z_bs1 (by first | exact want_none | exact want_L rfl) (by decide) rfl (by rfl) (by rfl) (by decide) (by decide) (fun u4 b4 hN4 => ?_)
      have hS4 := hS3.no hN4.chg
      have hD4 := hD3.no hN4.chg
      have hk2l := hD.wf.kids_len (i := 2) (by have := hI.len; omega)
      have hk1l := hD.wf.kids_len (i := 1) (by have := hI.len; omega)
      have hll : ((N.getD 2 n0).kids ++ (N.getD 1 n0).kids).length = (N.getD 2 n0).kids.length + (N.getD 1 n0).kids.length := List.length_append
      refine z_appendO (by rfl) (by decide) (by first | exact want_none | exact want_L rfl) (by decide) rfl rfl hS4.own (RdS.int1 hN4) (by omega) (by omega) (fun v5 u5 hO5 hC5 hr5 => ?_)
      obtain ⟨hS5, hD5⟩ := hS4.push hD4 hO5 hC5 hr5
      refine zl_pureL rfl ?_
      refine zl_nil ?_
      refine zk_norm_block ?_
      refine zk_seq ?_
      refine zc_region ?_
      refine zl_pureL rfl ?_
      refine z_add want_none (by decide) rfl rfl (by omega) (by omega) ?_
      refine zl_pureL rfl ?_
      refine zl_nil ?_
      refine zk_loopW (i + 1, v5, vl3, Q3, X) ⟨by omega, hD5, hI', by dsimp only; rw [hl']; omega, by dsimp only; rw [hk', hko 2 (by decide) (by decide), ← List.append_assoc]; exact hS5⟩ (by show K - (i + 1) < K - i; omega) ⟨rfl, rfl, rfl, rfl, rfl, get_int rfl (by omega), trivial⟩
    · refine z_cmpB (r := false) want_none (by decide) rfl rfl rfl (iff_of_false Bool.false_ne_true (by omega)) ?_
      refine zl_nil ?_
      refine zk_seq ?_
      refine zc_false rfl ?_
      refine zc_exit ?_
      iterate 2 (refine zk_exit_then ?_)
      refine zk_exit_block ?_
      exact zk_midX (v, vl, Q, N) ⟨hD, hI, by dsimp only; omega, hS⟩ ⟨rfl, rfl, rfl, rfl, trivial⟩
  rintro ⟨v, vl, Q, N⟩ w8 ⟨hD8, hI8, hl8, hS8⟩
  dsimp only at hD8 hI8 hl8 hS8 ⊢
  have hN3 := hI8.len
  have na1 : ¬ Anc N 0 1 := fun hh => absurd (anc_root hD8.wf.root hh) (by decide)
  have na2 : ¬ Anc N 2 1 := fun hh => na1 (anc_up hI8.up2 (by decide) hh)
  have ok8 : MoveOk N 1 2 := ⟨⟨⟨by decide, by omega⟩, hI8.kind 1 (by decide)⟩, ⟨⟨by decide, by omega⟩, hI8.kind 2 (by decide)⟩, na2⟩
  have hW9 : WF (moveN N 1 2) := hD8.wf.move (by omega) (by omega) na2
  have hlt1 : ∀ k ∈ (N.getD 1 n0).kids, k < N.length := fun k hk => ((hD8.wf.kid 1 k (by omega)).1 hk).1
  have get : ∀ i, (moveN N 1 2).getD i n0 = if i = 1 then { (upsN N (N.getD 1 n0).kids 2).getD 1 n0 with kids := [] } else if i = 2 then { (upsN N (N.getD 1 n0).kids 2).getD 2 n0 with kids := (N.getD 2 n0).kids ++ (N.getD 1 n0).kids } else (upsN N (N.getD 1 n0).kids 2).getD i n0 := fun i => by
    unfold moveN
    rw [getD_set _ _ _ _ _ (by rw [List.length_set, upsN_len]; omega), getD_set _ _ _ _ _ (by rw [upsN_len]; omega)]
  have e1 : ((moveN N 1 2).getD 1 n0).kids = [] := by rw [get, if_pos rfl]
  have e2 : ((moveN N 1 2).getD 2 n0).kids = (N.getD 2 n0).kids ++ (N.getD 1 n0).kids := by rw [get, if_neg (by decide), if_pos rfl]
  have ml := moveN_len N 1 2
  iterate 2 (refine zc_seq ?_)
  refine zc_region ?_
  iterate 3 (refine zl_pureL rfl ?_)
  refine zl_call (by first | exact want_none | exact want_L rfl) rfl (by decide) rfl (hD8.move (by omega) 1 2 _ ok8 rfl) ?_
  rintro _ w9 ⟨rfl, vl9, Q9, hD9, hW9'⟩
  refine ⟨_, rfl, ?_⟩
  have hS9 := hS8.wr hW9'
  rw [show moveN N (1 : Int).toNat (2 : Int).toNat = moveN N 1 2 from rfl] at hD9
  have hM : ∃ X, X = moveN N 1 2 := ⟨_, rfl⟩
  obtain ⟨X, hX⟩ := hM
  rw [← e2] at hS9
  rw [← hX] at hD9 e1 e2 hS9 hW9 ml
  have rt : (X.getD 0 n0).up = -1 := hW9.root
  have k1 : (X.getD 1 n0).up = 0 := by
    rw [hX, get, if_pos rfl]
    show ((upsN N (N.getD 1 n0).kids 2).getD 1 n0).up = 0
    rw [upsN_get _ _ _ hlt1, if_neg]
    · exact hI8.up1
    · intro hm; have := ((hD8.wf.kid 1 1 (by omega)).1 hm).2; rw [hI8.up1] at this; omega
  have na3 : ¬ MoveOk X 0 1 := fun hh => hh.2.2 (.step 1 0 0 k1 (Anc.refl 0))
  have hkl1 : (ndOf X 1).kids.length ≤ 100000 := by show (X.getD 1 n0).kids.length ≤ 100000; rw [e1]; exact Nat.zero_le _
  have hkl2 : (X.getD 2 n0).kids.length ≤ 100000 := by have := hW9.kids_len (i := 2) (by omega); omega
  have h1i : isN X 1 := ⟨by decide, by omega⟩
  have h2i : isN X 2 := ⟨by decide, by omega⟩
  iterate 4 (refine zl_pureL rfl ?_)
  refine zl_call (by first | exact want_none | exact want_L rfl) rfl (by decide) rfl (kids_calls hD9.is 1 hkl1) ?_
  rintro _ w10 ⟨v10, rfl, hi10, hC10⟩
  refine ⟨_, rfl, ?_⟩
  rw [if_pos h1i, show (ndOf X 1).kids = [] from e1] at hi10
  obtain ⟨A10, c10, rfl, _⟩ := hi10.form
  have hD10 := hD9.no hC10
  have hS10 := hS9.no hC10
  rw [show ([] : List Nat).length = 0 from rfl]
  refine z_len (want_L rfl) (by decide) rfl ?_
  refine z_cmpB (r := false) (want_L rfl) (by decide) rfl rfl rfl (iff_of_false Bool.false_ne_true (by omega)) ?_
  iterate 5 (refine zl_pureL rfl ?_)
  refine zl_call (by first | exact want_none | exact want_L rfl) rfl (by decide) rfl (hD10.moveNo (by omega) 1 1 (fun hh => hh.2.2 (Anc.refl _))) ?_
  rintro _ w11 ⟨rfl, vl11, Q11, hD11, hW11⟩
  refine ⟨_, rfl, ?_⟩
  have hS11 := hS10.wr hW11
  iterate 4 (refine zl_pureL rfl ?_)
  refine zl_call (by first | exact want_none | exact want_L rfl) rfl (by decide) rfl (hD11.moveNo (by omega) 0 1 na3) ?_
  rintro _ w12 ⟨rfl, vl12, Q12, hD12, hW12⟩
  refine ⟨_, rfl, ?_⟩
  have hS12 := hS11.wr hW12
  refine zl_pureL rfl ?_
  refine zl_nil ?_
  refine zk_seq ?_
  refine zc_false rfl ?_
  refine zc_skip ?_
  refine zk_seq ?_
  refine zc_seq ?_
  refine zc_region ?_
  iterate 2 (refine zl_pureL rfl ?_)
  refine zl_call (by first | exact want_none | exact want_L rfl) rfl (by decide) rfl (kids_calls hD12.is 2 hkl2) ?_
  rintro _ w13 ⟨v13, rfl, hi13, hC13⟩
  refine ⟨_, rfl, ?_⟩
  rw [if_pos h2i, show (ndOf X 2).kids = (X.getD 2 n0).kids from rfl] at hi13
  have hD13 := hD12.no hC13
  have hS13 := hS12.no hC13
  obtain ⟨A13, c13, rfl, _⟩ := hi13.form
  obtain ⟨A14, c14, hv14, _⟩ := hS13.own.rd.form
  subst hv14
  refine zl_pureL rfl ?_
  refine zl_nil ?_
  refine zk_seq ?_
  iterate 2 (refine zc_seq ?_)
  refine zc_region ?_
  refine zl_pureL rfl ?_
  refine z_len want_none (by decide) rfl ?_
  refine zl_pureL rfl ?_
  refine z_len want_none (by decide) rfl ?_
  refine z_cmpB (r := false) want_none (by decide) rfl rfl rfl (iff_of_false Bool.false_ne_true (by omega)) ?_
  refine zl_nil ?_
  refine zk_seq ?_
  refine zc_false rfl ?_
  refine zc_skip ?_
  refine zk_seq ?_
  iterate 2 (refine zc_seq ?_)
  refine zc_region ?_
  refine zl_pureL rfl ?_
  refine zl_nil ?_
  refine zk_seq ?_
  refine zc_block ?_
  refine zc_loopW (ι := Nat) (fun i u => [(5, .pointer (some ⟨p, 0, none⟩)), (7, .int .i64 2), (8, .slice A14 (X.getD 2 n0).kids.length c14), (13, .slice A13 (X.getD 2 n0).kids.length c13), (14, .int .i64 i)])
    (fun i u => i ≤ (X.getD 2 n0).kids.length ∧ Chg w13 u No) (fun i u => (X.getD 2 n0).kids.length - i) 0 ⟨Nat.zero_le _, Chg.refl _ _⟩ ?_ ?_
  · exact ⟨rfl, rfl, rfl, rfl, rfl, trivial⟩
  rintro i u ⟨hi, hC⟩
  by_cases hlt : i < (X.getD 2 n0).kids.length
  · obtain ⟨b, o, c', hv, _, hc⟩ := RdS.some (hi13.1.rd.no hC) (by omega)
    cases hv
    obtain ⟨b', o', c'', hv', _, hc'⟩ := RdS.some (hS13.own.rd.no hC) (by omega)
    cases hv'
    have g1 := hc i _ (intC_get _ i hlt)
    have g2 := hc' i _ (intC_get _ i hlt)
    have hup : (X.getD ((X.getD 2 n0).kids.getD i 0) n0).up = 2 := by
      have := ((hW9.kid 2 _ (by omega)).1 (getD_mem (d := 0) hlt)).2
      exact this
    have hkn := ((hW9.kid 2 _ (by omega)).1 (getD_mem (d := 0) hlt)).1
    generalize (X.getD 2 n0).kids.getD i 0 = kk at g1 g2 hup hkn
    iterate 2 (refine zc_seq ?_)
    refine zc_region ?_
    iterate 2 (refine zl_pureL rfl ?_)
    refine z_len want_none (by decide) rfl ?_
    refine z_cmpB (r := true) want_none (by decide) rfl rfl rfl (iff_of_true rfl (by omega)) ?_
    refine zl_nil ?_
    refine zk_seq ?_
    refine zc_true rfl ?_
    refine zc_skip ?_
    refine zk_seq ?_
    refine zc_seq ?_
    refine zc_block ?_
    refine zc_seq ?_
    refine zc_draw [] (fun w' => Chg u w' No) (.take 0 (.take 1 (.take 2 (.take 3 (.take 4 (.take 5 (.take 6 (.take 7 (.take 8 (.take 9 (.take 10 (.take 11 (.take 12 (.take 13 (.take 14 (.take 16 (.all1 15 (.take 17 (.take 18 (.fin)))))))))))))))))))) (by rfl) (by kernel_rfl) (by kernel_rfl) (fun u2 hC2 _ => ⟨?_, ?_⟩)
    · exact hC2
    iterate 2 (refine zs_take rfl (zt_pure rfl ?_))
    refine zs_rdL rfl want_none rfl (by decide) (fun _ hS => r_ia rfl rfl (by omega) (by omega)) ?_
    refine zs_rdL rfl (by first | exact want_none | exact want_L rfl) rfl (by decide) (fun _ hS => r_load1 rfl (cell_at (cell_no hS g1) (by omega))) ?_
    iterate 2 (refine zs_take rfl (zt_pure rfl ?_))
    refine zs_rdL rfl want_none rfl (by decide) (fun _ hS => r_ia rfl rfl (by omega) (by omega)) ?_
    refine zs_rdL rfl (by first | exact want_none | exact want_L rfl) rfl (by decide) (fun _ hS => r_load1 rfl (cell_at (cell_no hS g2) (by omega))) ?_
    refine zs_rdL rfl want_none rfl (by decide) (fun _ hS => r_cmpB (r := false) rfl rfl rfl (iff_of_false Bool.false_ne_true (by omega))) ?_
    iterate 4 (refine zs_take rfl (zt_pure rfl ?_))
    refine zs_rdL rfl (want_L rfl) rfl (by decide) (fun _ hS => r_ia rfl rfl (by omega) (by omega)) ?_
    refine zs_rdL rfl (by first | exact want_none | exact want_L rfl) rfl (by decide) (fun _ hS => r_load1 rfl (cell_at (cell_no hS g1) (by omega))) ?_
    refine zs_take rfl (zt_pure rfl ?_)
    refine zs_call rfl (by first | exact want_none | exact want_L rfl) rfl (by decide) rfl (up_calls (hD13.is.no (hC.no hC2)) kk) ?_
    rintro _ u3 ⟨rfl, hu⟩
    obtain rfl := hu.symm
    refine ⟨_, rfl, hC2, ?_⟩
    rw [show upOf X (kk : Nat) = 2 from by unfold upOf; rw [if_pos ⟨by omega, by omega⟩]; exact hup]
    refine zs_rdL rfl (want_L rfl) rfl (by decide) (fun _ hS => r_cmpB (r := false) rfl rfl rfl (iff_of_false Bool.false_ne_true (by omega))) ?_
    refine zs_take rfl (zt_pure rfl ?_)
    refine zs_fin ?_
    refine zk_seq ?_
    refine zc_false rfl ?_
    refine zc_skip ?_
    refine zk_norm_block ?_
    refine zk_seq ?_
    refine zc_region ?_
    refine zl_pureL rfl ?_
    refine z_add want_none (by decide) rfl rfl (by omega) (by omega) ?_
    refine zl_pureL rfl ?_
    refine zl_nil ?_
    exact zk_loopW (i + 1) ⟨by omega, hC.no hC2⟩ (by omega) ⟨rfl, rfl, rfl, rfl, get_int rfl (by omega), trivial⟩
  · iterate 2 (refine zc_seq ?_)
    refine zc_region ?_
    iterate 2 (refine zl_pureL rfl ?_)
    refine z_len want_none (by decide) rfl ?_
    refine z_cmpB (r := false) want_none (by decide) rfl rfl rfl (iff_of_false Bool.false_ne_true (by omega)) ?_
    refine zl_nil ?_
    refine zk_seq ?_
    refine zc_false rfl ?_
    refine zc_exit ?_
    iterate 2 (refine zk_exit_then ?_)
    refine zk_exit_block ?_
    refine zk_seq ?_
    refine zc_seq ?_
    refine zc_region ?_
    refine zl_pureL rfl ?_
    refine zl_nil ?_
    refine zk_seq ?_
    refine zc_ret ?_
    exact zk_ret1 (.inr rfl) rfl rfl ⟨rfl, (hD13.no hC).chg.below⟩
end Go.Proofs.Ytjiehalanklapaa.D
