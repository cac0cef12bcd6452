import Derived.Test.YtjiehalanklapaaDNum2
/- numbered, Number; the document's. -/
namespace Go.Proofs.Ytjiehalanklapaa.D
open Go Go.Z Go.Proofs
set_option linter.unusedVariables false
theorem NewS.ok {B : Nat} {v : Value} (h : NewS B v) {n : Nat} : 0 < n → ∀ b, v.ownBlock = some b → B ≤ b := fun _ b hb => h b hb
set_option maxHeartbeats 8000000 in
theorem numbered_calls : ∀ (f : Nat) {w : World} {v : Value} {t : NT} {pb c : Nat}, TreeAt w v t → FewT t → Blk w pb 87 [.int .i64 c] → t.size ≤ f → f ≤ 100000 → c + t.size ≤ 200000 →
    Calls Try.prog 52 [v, .func (.func 53) #[.pointer (some ⟨pb, 0, none⟩)] #[]].toArray w fun e w' => ∃ vo, e = .returned vo ∧ TreeOk w' (fun b => w.heap.size ≤ b) (fun b => w.heap.size ≤ b) vo (numT (c + 1) t).1 ∧ Blk w' pb 87 [.int .i64 (((numT (c + 1) t).2 - 1 : Nat) : Int)] ∧ Chg w w' (· = pb) := by
  intro f
  induction f with
  | zero =>
    intro w v t pb c h hfew hb hs _ _
    cases t with
    | cons x k r => simp [NT.size] at hs
    | nil =>
      obtain ⟨A, cA, rfl, hc⟩ := h.form
      refine calls_zc (n := 41) (f := 52) (fn := Try.f52) Try.func52 rfl rfl (by simp) ?_
      rw [show NT.nil.len = 0 from rfl]
      refine zc_seq ?_
      refine zc_region ?_
      refine zl_pureL rfl ?_
      refine zl_nil ?_
      refine zk_seq ?_
      iterate 2 (refine zc_seq ?_)
      refine zc_region ?_
      refine zl_pureL rfl ?_
      refine z_len want_none (by decide) rfl ?_
      refine z_cmpB (r := true) want_none (by decide) rfl rfl rfl (iff_of_true rfl (by omega)) ?_
      refine zl_nil ?_
      refine zk_seq ?_
      refine zc_true rfl ?_
      refine zc_seq ?_
      refine zc_region ?_
      refine zl_pureL rfl ?_
      refine zl_nil ?_
      refine zk_seq ?_
      refine zc_ret ?_
      refine zk_ret_then ?_
      exact zk_ret1 (.inr rfl) rfl rfl ⟨_, rfl, TreeOk.nil, hb, Chg.refl _ _⟩
  | succ f ih =>
    intro w v t pb c h hfew hb hs hf hcf
    obtain ⟨A, cA, hv, hc⟩ := h.form
    have hls := t.len_size
    subst hv
    refine calls_zc (n := 41) (f := 52) (fn := Try.f52) Try.func52 rfl rfl (by simp) ?_
    by_cases h0 : t.len = 0
    · have h0' := len0 h0
      subst h0'
      refine zc_seq ?_
      refine zc_region ?_
      refine zl_pureL rfl ?_
      refine zl_nil ?_
      refine zk_seq ?_
      iterate 2 (refine zc_seq ?_)
      refine zc_region ?_
      refine zl_pureL rfl ?_
      refine z_len want_none (by decide) rfl ?_
      refine z_cmpB (r := true) want_none (by decide) rfl rfl rfl (iff_of_true rfl (by omega)) ?_
      refine zl_nil ?_
      refine zk_seq ?_
      refine zc_true rfl ?_
      refine zc_seq ?_
      refine zc_region ?_
      refine zl_pureL rfl ?_
      refine zl_nil ?_
      refine zk_seq ?_
      refine zc_ret ?_
      refine zk_ret_then ?_
      exact zk_ret1 (.inr rfl) rfl rfl ⟨_, rfl, TreeOk.nil, hb, Chg.refl _ _⟩
    refine zc_seq ?_
    refine zc_region ?_
    refine zl_pureL rfl ?_
    refine zl_nil ?_
    refine zk_seq ?_
    iterate 2 (refine zc_seq ?_)
    refine zc_region ?_
    refine zl_pureL rfl ?_
    refine z_len want_none (by decide) rfl ?_
    refine z_cmpB (r := false) want_none (by decide) rfl rfl rfl (iff_of_false Bool.false_ne_true (by omega)) ?_
    refine zl_nil ?_
    refine zk_seq ?_
    refine zc_false rfl ?_
    refine zc_skip ?_
    refine zk_seq ?_
    refine zc_seq ?_
    refine zc_region ?_
    refine zl_pureL rfl ?_
    refine z_len want_none (by decide) rfl ?_
    refine z_make (by first | exact want_none | exact want_L rfl) (by decide) rfl rfl (Nat.zero_le _) (by omega) (by omega) (fun w1 b1 hN1 => ?_)
    have hO1 : Own w1 48 7 _ 0 [] := Own.made hN1 (by unfold maxLen; omega)
    have hOut1 : Out w.heap.size (fun b => w.heap.size ≤ b) w1 (.slice (some ⟨b1, 0, none⟩) 0 t.len) .nil := ⟨[], hO1, (fun k hk => by simp [Value.ownBlock] at hk; subst hk; exact hN1.ge (Chg.refl _ No)), rfl⟩
    have hb1 := hb.no hN1.chg
    have hC1 : Chg w w1 (· = pb) := hN1.chg.mono (fun _ _ h => h.elim)
    refine zl_pureL rfl ?_
    refine zl_nil ?_
    refine zk_seq ?_
    iterate 2 (refine zc_seq ?_)
    refine zc_region ?_
    refine zl_pureL rfl ?_
    refine z_len want_none (by decide) rfl ?_
    refine zl_pureL rfl ?_
    refine zl_nil ?_
    refine zk_seq ?_
    refine zc_block ?_
    refine zc_loopW (ι := Nat × Value × NT × Nat) (fun q u => [(1, .func (.func 53) #[.pointer (some ⟨pb, 0, none⟩)] #[]), (5, q.2.1), (14, .slice A t.len cA), (15, .int .i64 t.len), (16, .int .i64 q.1)])
      (fun q u => q.1 ≤ t.len ∧ Out w.heap.size (fun b => w.heap.size ≤ b) u q.2.1 q.2.2.1 ∧ q.2.2.1.len = q.1 ∧ Blk u pb 87 [.int .i64 (q.2.2.2 : Nat)] ∧ q.2.2.2 + (t.dropN q.1).size ≤ c + t.size ∧
        q.2.2.1.app (numT (q.2.2.2 + 1) (t.dropN q.1)).1 = (numT (c + 1) t).1 ∧ (numT (q.2.2.2 + 1) (t.dropN q.1)).2 = (numT (c + 1) t).2 ∧ Chg w u (· = pb)) (fun q u => t.len - q.1) (0, .slice (some ⟨b1, 0, none⟩) 0 t.len, .nil, c)
      ⟨Nat.zero_le _, hOut1, rfl, hb1, Nat.le_refl _, rfl, rfl, hC1⟩ ?_ ?_
    · exact ⟨rfl, rfl, rfl, rfl, rfl, trivial⟩
    rintro ⟨i, vo, Q, ci⟩ u ⟨hi, hOut, hQl, hpb, hci, hd1, hd2, hC⟩
    dsimp only at hi hOut hQl hpb hci hd1 hd2 ⊢
    have hbw := hb.lt
    by_cases hlt : i < t.len
    · have hu := h.blk hb hC (by decide) (by decide)
      obtain ⟨b, o, c', x, k, r, A', K, e1, hv, hN, hA, hK⟩ := hu.at_ i hlt
      cases hv
      have hsz := t.drop_size i
      rw [e1] at hsz hd1 hd2 hci
      simp only [NT.size] at hsz hci
      obtain ⟨hxa, hfk, hfr⟩ := hfew.drop t i x k r e1
      obtain ⟨A2, c2, rfl, _⟩ := hA.form
      obtain ⟨A3, c3, rfl, _⟩ := hK.form
      refine zc_seq ?_
      refine zc_region ?_
      refine z_cmpB (r := true) want_none (by decide) rfl rfl rfl (iff_of_true rfl (by omega)) ?_
      refine zl_nil ?_
      refine zk_seq ?_
      refine zc_seq ?_
      refine zc_true rfl ?_
      refine zc_skip ?_
      refine zk_seq ?_
      refine zc_seq ?_
      refine zc_block ?_
      refine zc_seq ?_
      refine zc_region ?_
      refine z_ia want_none (by decide) rfl rfl (by omega) (by omega) ?_
      refine z_loadA (by rfl) (by first | exact want_none | exact want_L rfl) (by decide) rfl (hN.agg (by omega)) ?_
      refine z_alloc (by first | exact want_none | exact want_L rfl) (by decide) (fun u1 b1 hN1 => ?_)
      have hb1 : Blk u1 b1 48 [.int .i64 0, .int .i64 0, .string ⟨#[]⟩, .slice none 0 0, .string ⟨#[]⟩, .int .i64 0, .slice none 0 0] := hN1.blk
      skip
      refine z_store (by first | exact want_none | exact want_L rfl) rfl rfl rfl (by assumption) (by first | exact Nat.le_refl _ | simp [Value.cells]) (by simp [Value.cells, Value.oneCell']) (fun u2 hU2 => ?_)
      have hb2 : Blk u2 b1 48 [.int .i64 x.kind, .int .i64 x.space, .string x.name, .slice A2 x.attrs.length c2, .string x.text, .int .i64 x.fr, .slice A3 k.len c3] := hU2.blk
      have hC2 := hN1.chg.upd hU2 (hN1.ge (Chg.refl _ No))
      have hpb2 := hpb.no hC2
      have hub := hpb.lt
      have hb1u : u.heap.size ≤ b1 := Nat.le_of_eq hN1.at_.symm
      have hfrd : (numH (ci + 1) x).fr = if x.kind = 2 then ((ci + 1 : Nat) : Int) else x.fr := by unfold numH; split <;> rfl
      refine zl_nil ?_
      refine zk_seq ?_
      refine zc_mid (fun u' => Blk u' b1 48 [.int .i64 x.kind, .int .i64 x.space, .string x.name, .slice A2 x.attrs.length c2, .string x.text, .int .i64 (numH (ci + 1) x).fr, .slice A3 k.len c3] ∧ Blk u' pb 87 [.int .i64 ((nxt (ci + 1) x - 1 : Nat) : Int)] ∧ Chg u u' (· = pb))
        [(1, .func (.func 53) #[.pointer (some ⟨pb, 0, none⟩)] #[]), (5, vo), (7, .pointer (some ⟨b1, 0, none⟩)), (14, .slice (some ⟨b, o, none⟩) t.len cA), (15, .int .i64 t.len), (16, .int .i64 i)] ?_ ?_
      · by_cases hk2 : x.kind = 2
        · have hnx : nxt (ci + 1) x - 1 = ci + 1 := by unfold nxt; rw [if_pos hk2]; omega
          refine zc_seq ?_
          refine zc_region ?_
          refine z_fa want_none (by decide) rfl ?_
          refine z_loadB want_none (by decide) rfl (by assumption) (by rfl) ?_
          refine z_cmpB (r := true) want_none (by decide) rfl rfl rfl (iff_of_true rfl (by omega)) ?_
          refine zl_nil ?_
          refine zk_seq ?_
          refine zc_true rfl ?_
          refine zc_region ?_
          refine zl_pureL rfl ?_
          refine z_callF (us := [.pointer (some ⟨pb, 0, none⟩)]) (vs := []) (by first | exact want_none | exact want_L rfl) rfl (by decide) rfl rfl (next_calls hpb2 (by omega)) ?_
          rintro _ u3 ⟨rfl, hpb3, hC3⟩
          refine ⟨_, rfl, ?_⟩
          have hb3 := hb2.chg hC3 (fun he => by have := hub; omega)
          refine z_fa want_none (by decide) rfl ?_
          refine z_store (by first | exact want_none | exact want_L rfl) rfl rfl rfl (by assumption) (by first | exact Nat.le_refl _ | simp [Value.cells]) (by simp [Value.cells, Value.oneCell']) (fun u4 hU4 => ?_)
          refine zl_nil ?_
          refine zk_mid ⟨by rw [hfrd, if_pos hk2]; exact hU4.blk, by rw [hnx]; exact hpb3.upd hU4 (by decide), ?_⟩ ⟨rfl, rfl, rfl, rfl, rfl, rfl, trivial⟩
          exact ((hC2.mono (fun _ _ h => h.elim)).trans hC3 (fun _ _ h => h)).trans hU4.chg (fun i hi he => by subst he; omega)
        · have hnx : nxt (ci + 1) x - 1 = ci := by unfold nxt; rw [if_neg hk2]; omega
          refine zc_seq ?_
          refine zc_region ?_
          refine z_fa want_none (by decide) rfl ?_
          refine z_loadB want_none (by decide) rfl (by assumption) (by rfl) ?_
          refine z_cmpB (r := false) want_none (by decide) rfl rfl rfl (iff_of_false Bool.false_ne_true (by omega)) ?_
          refine zl_nil ?_
          refine zk_seq ?_
          refine zc_false rfl ?_
          refine zc_skip ?_
          exact zk_mid ⟨by rw [hfrd, if_neg hk2]; exact hb2, by rw [hnx]; exact hpb2, hC2.mono (fun _ _ h => h.elim)⟩ ⟨rfl, rfl, rfl, rfl, rfl, rfl, trivial⟩
      rintro u5 ⟨hb5, hpb5, hC5⟩
      have hnl := nxt_le (ci + 1) x
      refine zc_seq ?_
      refine zc_region ?_
      refine z_fa want_none (by decide) rfl ?_
      refine z_loadB want_none (by decide) rfl (by assumption) (by rfl) ?_
      refine zl_call (by first | exact want_none | exact want_L rfl) rfl (by decide) rfl (copied_calls (RdS.chg hA hC5 (fun b cells hb he => hb.ne hpb (by decide) he)) hxa) ?_
      rintro _ u6 ⟨v6, rfl, ha6, hn6, hC6⟩
      refine ⟨_, rfl, ?_⟩
      obtain ⟨A6, c6, rfl, _⟩ := ha6.form
      have hb6 := hb5.no hC6
      have hpb6 := hpb5.no hC6
      refine z_fa want_none (by decide) rfl ?_
      refine z_store (by first | exact want_none | exact want_L rfl) rfl rfl rfl (by assumption) (by first | exact Nat.le_refl _ | simp [Value.cells]) (by simp [Value.cells, Value.oneCell']) (fun u7 hU7 => ?_)
      have hb7 : Blk u7 b1 48 [.int .i64 x.kind, .int .i64 x.space, .string x.name, .slice A6 x.attrs.length c6, .string x.text, .int .i64 (numH (ci + 1) x).fr, .slice A3 k.len c3] := hU7.blk
      have hpb7 := hpb6.upd hU7 (by decide)
      have hC7 : Chg u u7 (· = pb) := (hC5.no hC6).trans hU7.chg (fun i hi he => by subst he; omega)
      have ha7 : AttrS u7 (.slice A6 x.attrs.length c6) x.attrs := RdS.upd ha6 hU7 (by decide)
      have hK7 := hK.blk hpb hC7 (by decide) (by decide)
      have hpbe : nxt (ci + 1) x - 1 + 1 = nxt (ci + 1) x := by omega
      have hle := numT_le (nxt (ci + 1) x) k
      refine zl_nil ?_
      refine zk_seq ?_
      refine zc_seq ?_
      refine zc_region ?_
      refine z_fa want_none (by decide) rfl ?_
      refine z_loadB want_none (by decide) rfl (by assumption) (by rfl) ?_
      refine zl_pureL rfl ?_
      refine zl_call (by first | exact want_none | exact want_L rfl) rfl (by decide) rfl (ih hK7 hfk hpb7 (by omega) (by omega) (by omega)) ?_
      rintro _ u8 ⟨v8, rfl, hT8, hpb8, hC8⟩
      rw [hpbe] at hT8 hpb8
      refine ⟨_, rfl, ?_⟩
      obtain ⟨A8, c8, rfl, _⟩ := hT8.at'.form
      have hb8 := hb7.chg hC8 (fun he => by omega)
      have ha8 : AttrS u8 (.slice A6 x.attrs.length c6) x.attrs := RdS.chg ha7 hC8 (fun b cells hb he => hb.ne hpb7 (by decide) he)
      refine z_fa want_none (by decide) rfl ?_
      refine z_store (by first | exact want_none | exact want_L rfl) rfl rfl rfl (by assumption) (by first | exact Nat.le_refl _ | simp [Value.cells]) (by simp [Value.cells, Value.oneCell']) (fun u9 hU9 => ?_)
      have hb9 : Blk u9 b1 48 [.int .i64 x.kind, .int .i64 x.space, .string x.name, .slice A6 x.attrs.length c6, .string x.text, .int .i64 (numH (ci + 1) x).fr, .slice A8 (numT (nxt (ci + 1) x) k).1.len c8] := hU9.blk
      have hC9 : Chg u u9 (· = pb) := (hC7.trans hC8 (fun _ _ h => h)).trans hU9.chg (fun i hi he => by subst he; omega)
      have hb1s := hb7.lt
      have hT9 := hT8.chg hU9.chg (fun b _ _ hk he => by omega) (fun b cells hk _ he => hk.ne hb8 (by decide) he)
      have ha9 : AttrS u9 (.slice A6 x.attrs.length c6) x.attrs := RdS.upd ha8 hU9 (by decide)
      have hpb9 := hpb8.upd hU9 (by decide)
      have hOut9 := hOut.blk hpb hC9 (by decide) (by decide)
      have hus : u.heap.size ≤ u7.heap.size := hC7.size
      have hus9 : u7.heap.size ≤ u9.heap.size := Nat.le_trans hC8.size hU9.chg.size
      have hvlt : ∀ k, vo.ownBlock = some k → k < u.heap.size := fun k hk => by obtain ⟨ms, g1, _, _⟩ := hOut; exact g1.lt hk
      obtain ⟨A0, c0, hv0, hc0⟩ := hOut.form
      obtain ⟨ms, g1, g2, g3⟩ := hOut9
      have hml := Rows.len _ ms (RowsOk.rows _ ms g3)
      have hBu : w.heap.size ≤ u.heap.size := hC.size
      refine zl_nil ?_
      refine zk_seq ?_
      refine zc_region ?_
      refine zl_pureL rfl ?_
      refine z_loadAB want_none (by decide) rfl (by assumption) (by rfl) ?_
      refine z_bs1 (by first | exact want_none | exact want_L rfl) (by decide) rfl (by rfl) (by rfl) (by decide) (by decide) (fun u10 b10 hN10 => ?_)
      have hx9 : HR u9 ⟨x.kind, x.space, x.name, .slice A6 x.attrs.length c6, x.text, (numH (ci + 1) x).fr, .slice A8 (numT (nxt (ci + 1) x) k).1.len c8⟩ (numH (ci + 1) x) := by
        refine ⟨(numH_kind _ _).symm, ?_, ?_, by rw [numH_attrs]; exact ha9, (numH_text _ _).symm, rfl⟩
        · unfold numH; split <;> rfl
        · unfold numH; split <;> rfl
      have hR : RdS u10 48 7 (.slice (some ⟨b10, 0, none⟩) 1 1) 1 (encN [⟨x.kind, x.space, x.name, .slice A6 x.attrs.length c6, x.text, (numH (ci + 1) x).fr, .slice A8 (numT (nxt (ci + 1) x) k).1.len c8⟩]) := by
        obtain ⟨ks, h1, _, _⟩ := hT9
        exact RdS.node hx9 h1 hN10
      refine z_appendO (by rfl) (by decide) (by first | exact want_none | exact want_L rfl) (by decide) rfl rfl (g1.no hN10.chg) hR (by omega) (by omega) (fun v11 u11 hO11 hC11 hr11 => ?_)
      have hpb11 := (hpb9.no hN10.chg).chg hC11 (fun he => (g1.no hN10.chg).ne he (hpb9.no hN10.chg) (by decide) rfl)
      have hOut11 := Out.push g1 g2 g3 hx9 (by rw [numH_attrs]; intro hl b hb; have := hn6 b (by simpa [Value.ownBlock] using hb); have := hC5.size; omega)
        (hT9.mono (fun b hb hk => ⟨by omega, fun he => by have := hvlt b he; omega⟩) (fun b hb hk => by omega)) (by omega) hN10.chg hO11 hC11 hr11
      refine zl_pureL rfl ?_
      refine zl_nil ?_
      refine zk_norm_block ?_
      refine zk_seq ?_
      refine zc_region ?_
      refine z_add want_none (by decide) rfl rfl (by omega) (by omega) ?_
      refine zl_pureL rfl ?_
      refine zl_nil ?_
      refine zk_loopW (i + 1, v11, Q.snoc (numH (ci + 1) x) (numT (nxt (ci + 1) x) k).1, (numT (nxt (ci + 1) x) k).2 - 1) ⟨by omega, hOut11, by rw [NT.snoc_len, hQl], hpb11, ?_, ?_, ?_, ?_⟩ (by show t.len - (i + 1) < t.len - i; omega) ⟨rfl, rfl, rfl, rfl, get_int rfl (by simp), trivial⟩
      · dsimp only
        rw [t.drop_succ i x k r e1]
        omega
      · dsimp only
        rw [t.drop_succ i x k r e1, NT.snoc_app, ← hd1]
        simp only [numT]
        rw [show (numT (nxt (ci + 1) x) k).2 - 1 + 1 = (numT (nxt (ci + 1) x) k).2 by omega]
      · dsimp only
        rw [t.drop_succ i x k r e1, ← hd2]
        simp only [numT]
        rw [show (numT (nxt (ci + 1) x) k).2 - 1 + 1 = (numT (nxt (ci + 1) x) k).2 by omega]
      · refine ((hC.trans hC9 (fun _ _ h => h)).no hN10.chg).trans hC11 (fun i hi he => ?_)
        have := g2 i he; omega
    · obtain rfl : i = t.len := by omega
      rw [t.drop_len] at hd1 hd2
      simp only [numT, NT.app_nil] at hd1 hd2
      subst hd1
      refine zc_seq ?_
      refine zc_region ?_
      refine z_cmpB (r := false) want_none (by decide) rfl rfl rfl (iff_of_false Bool.false_ne_true (by omega)) ?_
      refine zl_nil ?_
      refine zk_seq ?_
      refine zc_seq ?_
      refine zc_false rfl ?_
      refine zc_exit ?_
      iterate 2 (refine zk_exit_then ?_)
      refine zk_exit_block ?_
      refine zk_seq ?_
      refine zc_seq ?_
      refine zc_region ?_
      iterate 2 (refine zl_pureL rfl ?_)
      refine zl_nil ?_
      refine zk_seq ?_
      refine zc_ret ?_
      refine zk_ret1 (.inr rfl) rfl rfl ⟨_, rfl, hOut.tree, ?_, hC⟩
      rw [← hd2]; exact hpb
theorem number_calls {w : World} {v : Value} {t : NT} (h : TreeAt w v t) (hfew : FewT t) (hs : t.size ≤ 100000) :
    Calls Try.prog 30 [v].toArray w fun e w' => ∃ vo, e = .returned vo ∧ TreeAt w' vo (numT 1 t).1 ∧ Chg w w' No := by
  obtain ⟨A, cA, rfl, hc⟩ := h.form
  refine calls_zc (n := 10) (f := 30) (fn := Try.f30) Try.func30 rfl rfl (by simp) ?_
  refine zc_seq ?_
  refine zc_region ?_
  refine zl_pureL rfl ?_
  refine zl_nil ?_
  refine zk_seq ?_
  refine zc_seq ?_
  refine zc_region ?_
  refine z_buildE #[.int .i64 0] (by first | exact want_none | exact want_L rfl) (by decide) rfl (by kernel_rfl) ?_
  refine z_box (by first | exact want_none | exact want_L rfl) (by decide) rfl (fun w1 b1 hN1 => ?_)
  have hb1 : Blk w1 b1 87 [.int .i64 ((0 : Nat) : Int)] := hN1.blk
  refine zl_pureL rfl ?_
  refine zl_nil ?_
  refine zk_seq ?_
  refine zc_seq ?_
  refine zc_region ?_
  iterate 2 (refine zl_pureL rfl ?_)
  refine z_makeFunc (vs := [.pointer (some ⟨b1, 0, none⟩)]) (by first | exact want_none | exact want_L rfl) (by decide) rfl ?_
  refine zl_call (by first | exact want_none | exact want_L rfl) rfl (by decide) rfl (numbered_calls t.size (h.no hN1.chg) hfew hb1 (Nat.le_refl _) hs (by omega)) ?_
  rintro _ w2 ⟨vo, rfl, hT, hb2, hC2⟩
  refine ⟨_, rfl, ?_⟩
  have hT' := hT.at'
  obtain ⟨A2, c2, rfl, _⟩ := hT'.form
  refine zl_pureL rfl ?_
  refine zl_nil ?_
  refine zk_seq ?_
  refine zc_ret ?_
  exact zk_ret1 (.inr rfl) rfl rfl ⟨_, rfl, hT', hN1.chg.trans hC2 (fun i hi he => by subst he; have := hN1.at_; omega)⟩
set_option maxHeartbeats 8000000 in
theorem numberR_calls : ∀ (f : Nat) {w : World} {v : Value} {t : NT} {n : Nat}, TreeAt w v t → FewT t → t.size ≤ f → f ≤ 100000 → n + t.size ≤ 200000 →
    Calls Try.prog 56 [v, .int .i64 n].toArray w fun e w' => ∃ vo, e = .returned (.tuple #[vo, .int .i64 ((numT n t).2 : Nat)]) ∧ TreeOk w' (fun b => w.heap.size ≤ b) (fun _ => True) vo (numT n t).1 ∧ Chg w w' No := by
  intro f
  induction f with
  | zero =>
    intro w v t n h hfew hs _ _
    cases t with
    | cons x k r => simp [NT.size] at hs
    | nil =>
      obtain ⟨A, cA, rfl, hc⟩ := h.form
      refine calls_zc (n := 40) (f := 56) (fn := Try.f56) Try.func56 rfl rfl (by simp) ?_
      rw [show NT.nil.len = 0 from rfl]
      refine zc_seq ?_
      refine zc_region ?_
      iterate 2 (refine zl_pureL rfl ?_)
      refine zl_nil ?_
      refine zk_seq ?_
      refine zc_seq ?_
      refine zc_region ?_
      refine zl_pureL rfl ?_
      refine zl_nil ?_
      refine zk_seq ?_
      iterate 2 (refine zc_seq ?_)
      refine zc_region ?_
      refine zl_pureL rfl ?_
      refine zl_nil ?_
      refine zk_seq ?_
      refine zc_block ?_
      refine zc_loopW (ι := Nat) (fun i u => [(0, .slice A 0 cA), (1, .int .i64 n), (6, .slice none 0 0), (7, .int .i64 0)]) (fun i u => u = w) (fun i u => 0) 0 rfl ?_ ?_
      · exact ⟨rfl, rfl, rfl, rfl, trivial⟩
      rintro i u rfl
      iterate 2 (refine zc_seq ?_)
      refine zc_region ?_
      iterate 2 (refine zl_pureL rfl ?_)
      refine z_len want_none (by decide) rfl ?_
      refine z_cmpB (r := false) want_none (by decide) rfl rfl rfl (iff_of_false Bool.false_ne_true (by omega)) ?_
      refine zl_nil ?_
      refine zk_seq ?_
      refine zc_false rfl ?_
      refine zc_exit ?_
      iterate 2 (refine zk_exit_then ?_)
      refine zk_exit_block ?_
      refine zk_seq ?_
      refine zc_seq ?_
      refine zc_region ?_
      iterate 4 (refine zl_pureL rfl ?_)
      refine zl_nil ?_
      refine zk_seq ?_
      refine zc_ret ?_
      exact zk_ret2 (.inr rfl) rfl rfl rfl ⟨_, rfl, TreeOk.nil, Chg.refl _ _⟩
  | succ f ih =>
    intro w v t n h hfew hs hf hnf
    obtain ⟨A, cA, hv, hc⟩ := h.form
    have hls := t.len_size
    subst hv
    refine calls_zc (n := 40) (f := 56) (fn := Try.f56) Try.func56 rfl rfl (by simp) ?_
    refine zc_seq ?_
    refine zc_region ?_
    iterate 2 (refine zl_pureL rfl ?_)
    refine zl_nil ?_
    refine zk_seq ?_
    refine zc_seq ?_
    refine zc_region ?_
    refine zl_pureL rfl ?_
    refine zl_nil ?_
    refine zk_seq ?_
    iterate 2 (refine zc_seq ?_)
    refine zc_region ?_
    refine zl_pureL rfl ?_
    refine zl_nil ?_
    refine zk_seq ?_
    refine zc_block ?_
    refine zc_loopW (ι := Nat × Value × NT × Nat) (fun q u => [(0, .slice A t.len cA), (1, .int .i64 (q.2.2.2 : Nat)), (6, q.2.1), (7, .int .i64 q.1)])
      (fun q u => q.1 ≤ t.len ∧ Out w.heap.size (fun _ => True) u q.2.1 q.2.2.1 ∧ q.2.2.1.len = q.1 ∧ q.2.2.2 + (t.dropN q.1).size ≤ n + t.size ∧
        q.2.2.1.app (numT q.2.2.2 (t.dropN q.1)).1 = (numT n t).1 ∧ (numT q.2.2.2 (t.dropN q.1)).2 = (numT n t).2 ∧ Chg w u No) (fun q u => t.len - q.1) (0, .slice none 0 0, .nil, n)
      ⟨Nat.zero_le _, Out.nil, rfl, Nat.le_refl _, rfl, rfl, Chg.refl _ _⟩ ?_ ?_
    · exact ⟨rfl, rfl, rfl, rfl, trivial⟩
    rintro ⟨i, vo, Q, ci⟩ u ⟨hi, hOut, hQl, hci, hd1, hd2, hC⟩
    dsimp only at hi hOut hQl hci hd1 hd2 ⊢
    by_cases hlt : i < t.len
    · obtain ⟨b, o, c', x, k, r, A', K, e1, hv, hN, hA, hK⟩ := (h.no hC).at_ i hlt
      cases hv
      have hsz := t.drop_size i
      rw [e1] at hsz hd1 hd2 hci
      simp only [NT.size] at hsz hci
      obtain ⟨hxa, hfk, hfr⟩ := hfew.drop t i x k r e1
      obtain ⟨A2, c2, rfl, _⟩ := hA.form
      obtain ⟨A3, c3, rfl, _⟩ := hK.form
      iterate 2 (refine zc_seq ?_)
      refine zc_region ?_
      iterate 2 (refine zl_pureL rfl ?_)
      refine z_len want_none (by decide) rfl ?_
      refine z_cmpB (r := true) want_none (by decide) rfl rfl rfl (iff_of_true rfl (by omega)) ?_
      refine zl_nil ?_
      refine zk_seq ?_
      refine zc_true rfl ?_
      refine zc_skip ?_
      refine zk_seq ?_
      refine zc_seq ?_
      refine zc_block ?_
      refine zc_seq ?_
      refine zc_region ?_
      iterate 2 (refine zl_pureL rfl ?_)
      refine z_ia want_none (by decide) rfl rfl (by omega) (by omega) ?_
      refine z_loadA (by rfl) (by first | exact want_none | exact want_L rfl) (by decide) rfl (hN.agg (by omega)) ?_
      refine z_alloc (by first | exact want_none | exact want_L rfl) (by decide) (fun u1 b1 hN1 => ?_)
      have hb1 : Blk u1 b1 48 [.int .i64 0, .int .i64 0, .string ⟨#[]⟩, .slice none 0 0, .string ⟨#[]⟩, .int .i64 0, .slice none 0 0] := hN1.blk
      skip
      refine z_store (by first | exact want_none | exact want_L rfl) rfl rfl rfl (by assumption) (by first | exact Nat.le_refl _ | simp [Value.cells]) (by simp [Value.cells, Value.oneCell']) (fun u2 hU2 => ?_)
      have hb2 : Blk u2 b1 48 [.int .i64 x.kind, .int .i64 x.space, .string x.name, .slice A2 x.attrs.length c2, .string x.text, .int .i64 x.fr, .slice A3 k.len c3] := hU2.blk
      have hC2 := hN1.chg.upd hU2 (hN1.ge (Chg.refl _ No))
      have hb1u : u.heap.size ≤ b1 := Nat.le_of_eq hN1.at_.symm
      have hfrd : (numH ci x).fr = if x.kind = 2 then (ci : Int) else x.fr := by unfold numH; split <;> rfl
      have hnl := nxt_le ci x
      refine zl_nil ?_
      refine zk_seq ?_
      refine zc_mid (fun u' => Blk u' b1 48 [.int .i64 x.kind, .int .i64 x.space, .string x.name, .slice A2 x.attrs.length c2, .string x.text, .int .i64 (numH ci x).fr, .slice A3 k.len c3] ∧ Chg u u' No)
        [(0, .slice (some ⟨b, o, none⟩) t.len cA), (1, .int .i64 (nxt ci x : Nat)), (6, vo), (7, .int .i64 i), (8, .pointer (some ⟨b1, 0, none⟩))] ?_ ?_
      · by_cases hk2 : x.kind = 2
        · refine zc_seq ?_
          refine zc_region ?_
          refine z_fa want_none (by decide) rfl ?_
          refine z_loadB want_none (by decide) rfl (by assumption) (by rfl) ?_
          refine z_cmpB (r := true) want_none (by decide) rfl rfl rfl (iff_of_true rfl (by omega)) ?_
          refine zl_nil ?_
          refine zk_seq ?_
          refine zc_true rfl ?_
          refine zc_seq ?_
          refine zc_region ?_
          refine zl_pureL rfl ?_
          refine z_fa want_none (by decide) rfl ?_
          refine z_store (by first | exact want_none | exact want_L rfl) rfl rfl rfl (by assumption) (by first | exact Nat.le_refl _ | simp [Value.cells]) (by simp [Value.cells, Value.oneCell']) (fun u4 hU4 => ?_)
          refine zl_nil ?_
          refine zk_seq ?_
          refine zc_region ?_
          refine zl_pureL rfl ?_
          refine z_add want_none (by decide) rfl rfl (by omega) (by omega) ?_
          refine zl_pureL rfl ?_
          refine zl_nil ?_
          exact zk_mid ⟨by rw [hfrd, if_pos hk2]; exact hU4.blk, hC2.upd hU4 hb1u⟩ ⟨rfl, by unfold nxt; rw [if_pos hk2]; rfl, rfl, rfl, rfl, trivial⟩
        · refine zc_seq ?_
          refine zc_region ?_
          refine z_fa want_none (by decide) rfl ?_
          refine z_loadB want_none (by decide) rfl (by assumption) (by rfl) ?_
          refine z_cmpB (r := false) want_none (by decide) rfl rfl rfl (iff_of_false Bool.false_ne_true (by omega)) ?_
          refine zl_nil ?_
          refine zk_seq ?_
          refine zc_false rfl ?_
          refine zc_skip ?_
          exact zk_mid ⟨by rw [hfrd, if_neg hk2]; exact hb2, hC2⟩ ⟨rfl, by unfold nxt; rw [if_neg hk2]; rfl, rfl, rfl, rfl, trivial⟩
      rintro u5 ⟨hb5, hC5⟩
      refine zc_seq ?_
      refine zc_region ?_
      refine z_fa want_none (by decide) rfl ?_
      refine z_loadB want_none (by decide) rfl (by assumption) (by rfl) ?_
      refine zl_pureL rfl ?_
      refine zl_call (by first | exact want_none | exact want_L rfl) rfl (by decide) rfl (ih (hK.no hC5) hfk (by omega) (by omega) (by omega)) ?_
      rintro _ u8 ⟨v8, rfl, hT8, hC8⟩
      refine ⟨_, rfl, ?_⟩
      have hle := numT_le (nxt ci x) k
      obtain ⟨A8, c8, rfl, _⟩ := hT8.at'.form
      have hb8 := hb5.no hC8
      iterate 3 (refine zl_pureL rfl ?_)
      refine z_fa want_none (by decide) rfl ?_
      refine z_store (by first | exact want_none | exact want_L rfl) rfl rfl rfl (by assumption) (by first | exact Nat.le_refl _ | simp [Value.cells]) (by simp [Value.cells, Value.oneCell']) (fun u9 hU9 => ?_)
      have hb9 : Blk u9 b1 48 [.int .i64 x.kind, .int .i64 x.space, .string x.name, .slice A2 x.attrs.length c2, .string x.text, .int .i64 (numH ci x).fr, .slice A8 (numT (nxt ci x) k).1.len c8] := hU9.blk
      have hC9 : Chg u u9 No := (hC5.no hC8).upd hU9 hb1u
      have hb1s := hb5.lt
      have hT9 := hT8.chg hU9.chg (fun b _ _ hk he => by omega) (fun b cells hk _ he => hk.ne hb8 (by decide) he)
      have ha9 : AttrS u9 (.slice A2 x.attrs.length c2) x.attrs := hA.no hC9
      have hOut9 := hOut.no hC9
      have hus : u.heap.size ≤ u5.heap.size := hC5.size
      have hus9 : u5.heap.size ≤ u9.heap.size := Nat.le_trans hC8.size hU9.chg.size
      have hvlt : ∀ k, vo.ownBlock = some k → k < u.heap.size := fun k hk => by obtain ⟨ms, g1, _, _⟩ := hOut; exact g1.lt hk
      obtain ⟨A0, c0, hv0, hc0⟩ := hOut.form
      obtain ⟨ms, g1, g2, g3⟩ := hOut9
      have hml := Rows.len _ ms (RowsOk.rows _ ms g3)
      have hBu : w.heap.size ≤ u.heap.size := hC.size
      refine zl_pureL rfl ?_
      refine zl_nil ?_
      refine zk_seq ?_
      refine zc_region ?_
      refine zl_pureL rfl ?_
      refine z_loadAB want_none (by decide) rfl (by assumption) (by rfl) ?_
      refine z_bs1 (by first | exact want_none | exact want_L rfl) (by decide) rfl (by rfl) (by rfl) (by decide) (by decide) (fun u10 b10 hN10 => ?_)
      have hx9 : HR u9 ⟨x.kind, x.space, x.name, .slice A2 x.attrs.length c2, x.text, (numH ci x).fr, .slice A8 (numT (nxt ci x) k).1.len c8⟩ (numH ci x) := by
        refine ⟨(numH_kind _ _).symm, ?_, ?_, by rw [numH_attrs]; exact ha9, (numH_text _ _).symm, rfl⟩
        · unfold numH; split <;> rfl
        · unfold numH; split <;> rfl
      have hR : RdS u10 48 7 (.slice (some ⟨b10, 0, none⟩) 1 1) 1 (encN [⟨x.kind, x.space, x.name, .slice A2 x.attrs.length c2, x.text, (numH ci x).fr, .slice A8 (numT (nxt ci x) k).1.len c8⟩]) := by
        obtain ⟨ks, h1, _, _⟩ := hT9
        exact RdS.node hx9 h1 hN10
      refine z_appendO (by rfl) (by decide) (by first | exact want_none | exact want_L rfl) (by decide) rfl rfl (g1.no hN10.chg) hR (by omega) (by omega) (fun v11 u11 hO11 hC11 hr11 => ?_)
      have hOut11 := Out.push g1 g2 g3 hx9 (fun _ _ _ => trivial)
        (hT9.mono (o5' := fun _ => True) (fun b hb hk => ⟨by omega, fun he => by have := hvlt b he; omega⟩) (fun b hb hk => trivial)) (by omega) hN10.chg hO11 hC11 hr11
      refine zl_pureL rfl ?_
      refine zl_nil ?_
      refine zk_norm_block ?_
      refine zk_seq ?_
      refine zc_region ?_
      refine zl_pureL rfl ?_
      refine z_add want_none (by decide) rfl rfl (by omega) (by omega) ?_
      refine zl_pureL rfl ?_
      refine zl_nil ?_
      refine zk_loopW (i + 1, v11, Q.snoc (numH ci x) (numT (nxt ci x) k).1, (numT (nxt ci x) k).2) ⟨by omega, hOut11, by rw [NT.snoc_len, hQl], ?_, ?_, ?_, ?_⟩ (by show t.len - (i + 1) < t.len - i; omega) ⟨rfl, rfl, rfl, get_int rfl (by simp), trivial⟩
      · dsimp only
        rw [t.drop_succ i x k r e1]
        omega
      · dsimp only
        rw [t.drop_succ i x k r e1, NT.snoc_app, ← hd1]
        simp only [numT]
      · dsimp only
        rw [t.drop_succ i x k r e1, ← hd2]
        simp only [numT]
      · refine ((hC.no hC9).no hN10.chg).trans hC11 (fun i hi he => ?_)
        have := g2 i he; omega
    · obtain rfl : i = t.len := by omega
      rw [t.drop_len] at hd1 hd2
      simp only [numT, NT.app_nil] at hd1 hd2
      subst hd1
      subst hd2
      obtain ⟨A0, c0, rfl, hc0⟩ := hOut.form
      iterate 2 (refine zc_seq ?_)
      refine zc_region ?_
      iterate 2 (refine zl_pureL rfl ?_)
      refine z_len want_none (by decide) rfl ?_
      refine z_cmpB (r := false) want_none (by decide) rfl rfl rfl (iff_of_false Bool.false_ne_true (by omega)) ?_
      refine zl_nil ?_
      refine zk_seq ?_
      refine zc_false rfl ?_
      refine zc_exit ?_
      iterate 2 (refine zk_exit_then ?_)
      refine zk_exit_block ?_
      refine zk_seq ?_
      refine zc_seq ?_
      refine zc_region ?_
      iterate 4 (refine zl_pureL rfl ?_)
      refine zl_nil ?_
      refine zk_seq ?_
      refine zc_ret ?_
      exact zk_ret2 (.inr rfl) rfl rfl rfl ⟨_, rfl, hOut.tree, hC⟩
theorem NumberR_calls {w : World} {v : Value} {t : NT} (h : TreeAt w v t) (hfew : FewT t) (hs : t.size ≤ 100000) :
    Calls Try.prog 33 [v].toArray w fun e w' => ∃ vo, e = .returned vo ∧ TreeAt w' vo (numT 1 t).1 ∧ Chg w w' No := by
  obtain ⟨A, cA, rfl, hc⟩ := h.form
  refine calls_zc (n := 11) (f := 33) (fn := Try.f33) Try.func33 rfl rfl (by simp) ?_
  refine zc_seq ?_
  refine zc_region ?_
  refine zl_pureL rfl ?_
  refine zl_nil ?_
  refine zk_seq ?_
  refine zc_seq ?_
  refine zc_region ?_
  refine zl_pureL rfl ?_
  refine zl_call (by first | exact want_none | exact want_L rfl) rfl (by decide) rfl (numberR_calls (n := 1) t.size h hfew (Nat.le_refl _) hs (by omega)) ?_
  rintro _ w2 ⟨vo, rfl, hT, hC2⟩
  refine ⟨_, rfl, ?_⟩
  have hT' := hT.at'
  obtain ⟨A2, c2, rfl, _⟩ := hT'.form
  iterate 5 (refine zl_pureL rfl ?_)
  refine zl_nil ?_
  refine zk_seq ?_
  refine zc_seq ?_
  refine zc_region ?_
  iterate 2 (refine zl_pureL rfl ?_)
  refine zl_nil ?_
  refine zk_seq ?_
  refine zc_ret ?_
  exact zk_ret1 (.inr rfl) rfl rfl ⟨_, rfl, hT', hC2⟩
set_option maxHeartbeats 2000000 in
theorem strsSame_calls {w : World} {B1 B2 : Nat} {v1 v2 : Value} {l1 l2 : List ByteArray} (h1 : Strs w B1 v1 l1) (h2 : Strs w B2 v2 l2) (hl1 : l1.length ≤ 1000000) (hl2 : l2.length ≤ 1000000) :
    Calls Try.prog 17 [v1, v2].toArray w fun e w' => e = .returned (.bool (decide (l1 = l2))) ∧ Chg w w' No := by
  obtain ⟨A1, c1, hv1, hc1⟩ := h1.form
  obtain ⟨A2, c2, hv2, hc2⟩ := h2.form
  subst hv1; subst hv2
  have hat : ∀ {u : World} {B : Nat} {A : Option Addr} {c : Nat} {l : List ByteArray}, Strs u B (.slice A l.length c) l → ∀ i, i < l.length → ∃ b o, A = some ⟨b, o, none⟩ ∧ u.cell? ⟨b, o + i, none⟩ = some (.string (l.getD i ⟨#[]⟩)) := fun {u B A c l} h i hi => by
    obtain ⟨b, o, c', hv, _, hc⟩ := h.1.rd.some (by omega)
    cases hv
    refine ⟨b, o, rfl, hc i _ ?_⟩
    simp [strC, List.getElem?_map, List.getElem?_eq_getElem hi, List.getD_eq_getElem?_getD]
  refine calls_zc (n := 26) (f := 17) (fn := Try.f17) Try.func17 rfl rfl (by simp) ?_
  by_cases hll : l1.length = l2.length
  · refine zc_seq ?_
    refine zc_region ?_
    refine zl_pureL rfl ?_
    refine zl_nil ?_
    refine zk_seq ?_
    iterate 2 (refine zc_seq ?_)
    refine zc_region ?_
    refine zl_pureL rfl ?_
    refine z_len want_none (by decide) rfl ?_
    refine zl_pureL rfl ?_
    refine z_len want_none (by decide) rfl ?_
    refine z_cmpB (r := false) want_none (by decide) rfl rfl rfl (iff_of_false Bool.false_ne_true (by omega)) ?_
    refine zl_nil ?_
    refine zk_seq ?_
    refine zc_false rfl ?_
    refine zc_skip ?_
    refine zk_seq ?_
    iterate 2 (refine zc_seq ?_)
    refine zc_region ?_
    refine zl_pureL rfl ?_
    refine zl_nil ?_
    refine zk_seq ?_
    refine zc_block ?_
    refine zc_loopW (ι := Nat) (fun k u => [(0, .slice A1 l1.length c1), (1, .slice A2 l2.length c2), (5, .int .i64 k)])
      (fun k u => k ≤ l1.length ∧ Chg w u No ∧ l1.take k = l2.take k) (fun k u => l1.length - k) 0 ⟨Nat.zero_le _, Chg.refl _ _, rfl⟩ ?_ ?_
    · exact ⟨rfl, rfl, rfl, trivial⟩
    rintro k u ⟨hk, hC, hb⟩
    by_cases hlt : k < l1.length
    · obtain ⟨b, o, hv, g0⟩ := hat (h1.no hC) k hlt
      obtain ⟨b', o', hv', g0'⟩ := hat (h2.no hC) k (by omega)
      subst hv; subst hv'
      iterate 2 (refine zc_seq ?_)
      refine zc_region ?_
      iterate 2 (refine zl_pureL rfl ?_)
      refine z_len want_none (by decide) rfl ?_
      refine z_cmpB (r := true) want_none (by decide) rfl rfl rfl (iff_of_true rfl (by omega)) ?_
      refine zl_nil ?_
      refine zk_seq ?_
      refine zc_true rfl ?_
      refine zc_skip ?_
      refine zk_seq ?_
      refine zc_seq ?_
      refine zc_block ?_
      refine zc_seq ?_
      refine zc_draw [] (fun w' => Chg u w' No) (.take 0 (.take 1 (.take 2 (.take 3 (.take 4 (.take 5 (.take 6 (.take 7 (.take 8 (.fin)))))))))) (by rfl) (by kernel_rfl) (by kernel_rfl) (fun w1 hC1 hH1 => ⟨?_, ?_⟩)
      · exact hC1
      iterate 2 (refine zs_take rfl (zt_pure rfl ?_))
      refine zs_rdL rfl want_none rfl (by decide) (fun _ hS => r_ia rfl rfl (by omega) (by omega)) ?_
      refine zs_rdL rfl (by first | exact want_none | exact want_L rfl) rfl (by decide) (fun _ hS => r_load1 rfl (cell_at (cell_no hS g0) (by omega))) ?_
      iterate 2 (refine zs_take rfl (zt_pure rfl ?_))
      refine zs_rdL rfl want_none rfl (by decide) (fun _ hS => r_ia rfl rfl (by omega) (by omega)) ?_
      refine zs_rdL rfl (by first | exact want_none | exact want_L rfl) rfl (by decide) (fun _ hS => r_load1 rfl (cell_at (cell_no hS g0') (by omega))) ?_
      refine zs_neS rfl (by first | exact want_none | exact want_L rfl) (by decide) rfl rfl (fun hc => ?_) (fun hc => ?_)
      · have hn : ¬ l1.getD k ⟨#[]⟩ = l2.getD k ⟨#[]⟩ := by assumption
        refine zs_fin ?_
        refine zk_seq ?_
        refine zc_true rfl ?_
        refine zc_seq ?_
        refine zc_region ?_
        refine zl_pureL rfl ?_
        refine zl_nil ?_
        refine zk_seq ?_
        refine zc_ret ?_
        refine zk_ret_block ?_
        iterate 2 (refine zk_ret_then ?_)
        refine zk_ret_block ?_
        refine zk_ret_then ?_
        refine zk_ret1 (.inr rfl) rfl rfl ⟨?_, hC.no hC1⟩
        rw [decide_eq_false (fun h => hn (by rw [h]))]
      · have hn : l1.getD k ⟨#[]⟩ = l2.getD k ⟨#[]⟩ := by assumption
        refine zs_fin ?_
        refine zk_seq ?_
        refine zc_false rfl ?_
        refine zc_skip ?_
        refine zk_norm_block ?_
        refine zk_seq ?_
        refine zc_region ?_
        refine zl_pureL rfl ?_
        refine z_add want_none (by decide) rfl rfl (by omega) (by omega) ?_
        refine zl_pureL rfl ?_
        refine zl_nil ?_
        refine zk_loopW (k + 1) ⟨by omega, hC.no hC1, ?_⟩ (by omega) ⟨rfl, rfl, get_int rfl (by simp), trivial⟩
        rw [take_getD ⟨#[]⟩ hlt, take_getD ⟨#[]⟩ (by omega), hb, hn]
    · obtain rfl : k = l1.length := by omega
      iterate 2 (refine zc_seq ?_)
      refine zc_region ?_
      iterate 2 (refine zl_pureL rfl ?_)
      refine z_len want_none (by decide) rfl ?_
      refine z_cmpB (r := false) want_none (by decide) rfl rfl rfl (iff_of_false Bool.false_ne_true (by omega)) ?_
      refine zl_nil ?_
      refine zk_seq ?_
      refine zc_false rfl ?_
      refine zc_exit ?_
      iterate 2 (refine zk_exit_then ?_)
      refine zk_exit_block ?_
      refine zk_seq ?_
      refine zc_seq ?_
      refine zc_region ?_
      refine zl_pureL rfl ?_
      refine zl_nil ?_
      refine zk_seq ?_
      refine zc_ret ?_
      refine zk_ret1 (.inr rfl) rfl rfl ⟨?_, hC⟩
      rw [List.take_length, hll, List.take_length] at hb
      rw [decide_eq_true hb]
  · refine zc_seq ?_
    refine zc_region ?_
    refine zl_pureL rfl ?_
    refine zl_nil ?_
    refine zk_seq ?_
    iterate 2 (refine zc_seq ?_)
    refine zc_region ?_
    refine zl_pureL rfl ?_
    refine z_len want_none (by decide) rfl ?_
    refine zl_pureL rfl ?_
    refine z_len want_none (by decide) rfl ?_
    refine z_cmpB (r := true) want_none (by decide) rfl rfl rfl (iff_of_true rfl (by omega)) ?_
    refine zl_nil ?_
    refine zk_seq ?_
    refine zc_true rfl ?_
    refine zc_seq ?_
    refine zc_region ?_
    refine zl_pureL rfl ?_
    refine zl_nil ?_
    refine zk_seq ?_
    refine zc_ret ?_
    refine zk_ret_then ?_
    refine zk_ret1 (.inr rfl) rfl rfl ⟨?_, Chg.refl _ _⟩
    rw [decide_eq_false (fun h => hll (by rw [h]))]
end Go.Proofs.Ytjiehalanklapaa.D
