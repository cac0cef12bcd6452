import Derived.Test.YtjiehalanklapaaVNum
/- Numbers, of nodes that are handed in. -/
namespace Go.Proofs.Ytjiehalanklapaa.V
open Go Go.Z Go.Proofs Go.Proofs.Ytjiehalanklapaa.D
set_option linter.unusedVariables false
/-- nodes made since, but for their attributes: these lie as they lay in w0 -/
def RowsN (w0 w : World) (o8 : Nat → Prop) : NT → List MN → Prop
  | .nil, ms => ms = []
  | .cons x k r, ms => ∃ m q, ms = m :: q ∧ HR w0 m x ∧ (∃ ks, RdS w 48 7 m.kids ks.length (encN ks) ∧ (0 < ks.length → ∀ b, m.kids.ownBlock = some b → o8 b) ∧ RowsN w0 w o8 k ks) ∧ RowsN w0 w o8 r q
def TreeN (w0 w : World) (o8 : Nat → Prop) (v : Value) (t : NT) : Prop := ∃ ms, RdS w 48 7 v ms.length (encN ms) ∧ (0 < ms.length → ∀ b, v.ownBlock = some b → o8 b) ∧ RowsN w0 w o8 t ms
section
variable {w0 w00 w w' : World} {o8 o8' : Nat → Prop} {S : Nat → Prop}
theorem RowsN.len : ∀ (t : NT) (ms : List MN), RowsN w0 w o8 t ms → ms.length = t.len
  | .nil, ms, h => by cases h; rfl
  | .cons x k r, ms, h => by
    obtain ⟨m, q, h1, _, _, h5⟩ := h
    subst h1
    simp only [List.length_cons, NT.len, RowsN.len r q h5]
theorem RowsN.rows (hc : Chg w0 w No) : ∀ (t : NT) (ms : List MN), RowsN w0 w o8 t ms → Rows w t ms
  | .nil, ms, h => h
  | .cons x k r, ms, h => by
    obtain ⟨m, q, h1, h2, ⟨ks, h4, h5, h6⟩, h7⟩ := h
    exact ⟨m, q, h1, h2.no hc, ⟨ks, RdW.of h4, RowsN.rows hc k ks h6⟩, RowsN.rows hc r q h7⟩
theorem TreeN.at' {v : Value} {t : NT} (h : TreeN w0 w o8 v t) (hc : Chg w0 w No) : TreeAt w v t := by
  obtain ⟨ms, h1, _, h2⟩ := h
  exact ⟨ms, RdW.of h1, RowsN.rows hc t ms h2⟩
theorem TreeN.form {v : Value} {t : NT} (h : TreeN w0 w o8 v t) : ∃ A c, v = .slice A t.len c ∧ t.len ≤ c := by
  obtain ⟨ms, h1, _, h2⟩ := h
  have := h1.form
  rwa [RowsN.len t ms h2] at this
theorem RowsN.mono (h8 : ∀ b, b < w.heap.size → o8 b → o8' b) : ∀ (t : NT) (ms : List MN), RowsN w0 w o8 t ms → RowsN w0 w o8' t ms
  | .nil, ms, h => h
  | .cons x k r, ms, h => by
    obtain ⟨m, q, h1, h2, ⟨ks, h4, h6, h7⟩, h9⟩ := h
    exact ⟨m, q, h1, h2, ⟨ks, h4, fun hl b hb => h8 b (RdS.ownLt h4 hl hb) (h6 hl b hb), RowsN.mono h8 k ks h7⟩, RowsN.mono h8 r q h9⟩
theorem TreeN.mono {v : Value} {t : NT} (h : TreeN w0 w o8 v t) (h8 : ∀ b, b < w.heap.size → o8 b → o8' b) : TreeN w0 w o8' v t := by
  obtain ⟨ms, h1, h2, h3⟩ := h
  exact ⟨ms, h1, fun hl b hb => h8 b (RdS.ownLt h1 hl hb) (h2 hl b hb), RowsN.mono h8 t ms h3⟩
theorem RowsN.chg (hc : Chg w w' S) (h8 : ∀ b cells, Blk w b 48 cells → o8 b → ¬ S b) : ∀ (t : NT) (ms : List MN), RowsN w0 w o8 t ms → RowsN w0 w' o8 t ms
  | .nil, ms, h => h
  | .cons x k r, ms, h => by
    obtain ⟨m, q, h1, h2, ⟨ks, h4, h6, h7⟩, h9⟩ := h
    exact ⟨m, q, h1, h2, ⟨ks, h4.chgAt hc (fun hl b cells hb hk => h8 b cells hk (h6 hl b hb)), h6, RowsN.chg hc h8 k ks h7⟩, RowsN.chg hc h8 r q h9⟩
theorem TreeN.chg {v : Value} {t : NT} (h : TreeN w0 w o8 v t) (hc : Chg w w' S) (h8 : ∀ b cells, Blk w b 48 cells → o8 b → ¬ S b) : TreeN w0 w' o8 v t := by
  obtain ⟨ms, h1, h2, h3⟩ := h
  exact ⟨ms, h1.chgAt hc (fun hl b cells hb hk => h8 b cells hk (h2 hl b hb)), h2, RowsN.chg hc h8 t ms h3⟩
theorem TreeN.nil : TreeN w0 w o8 (.slice none 0 0) .nil := ⟨[], RdS.nil, fun h => absurd h (Nat.lt_irrefl 0), rfl⟩
theorem RowsN.snoc {m : MN} {x : Hd} {k : NT} (hm : HR w0 m x) (hk : TreeN w0 w o8 m.kids k) : ∀ (t : NT) (ms : List MN), RowsN w0 w o8 t ms → RowsN w0 w o8 (t.snoc x k) (ms ++ [m])
  | .nil, ms, h => by
    cases h
    exact ⟨m, [], rfl, hm, hk, rfl⟩
  | .cons y k' r, ms, h => by
    obtain ⟨m', q, rfl, h2, h4, h9⟩ := h
    exact ⟨m', q ++ [m], rfl, h2, h4, RowsN.snoc hm hk r q h9⟩
theorem RdS.nodeN {w1 : World} {b : Nat} {m : MN} {x : Hd} {ks : List MN} (hx : HR w0 m x) (hk : RdS w 48 7 m.kids ks.length (encN ks)) (h : New w w1 b 48 m.val.cells.toList) : RdS w1 48 7 (.slice (some ⟨b, 0, none⟩) 1 1) 1 (encN [m]) := by
  refine RdS.new h rfl ?_
  obtain ⟨A, c, hv, _⟩ := hx.2.2.2.1.form
  obtain ⟨A', c', hv', _⟩ := hk.form
  intro u hu
  simp only [encN, List.mem_cons, List.not_mem_nil, or_false] at hu
  rcases hu with rfl | rfl | rfl | rfl | rfl | rfl | rfl
  · rfl
  · rfl
  · rfl
  · rw [hv]; rfl
  · rfl
  · rfl
  · rw [hv']; rfl
/-- such a row that grows -/
def OutN (w0 : World) (B : Nat) (w : World) (vo : Value) (t : NT) : Prop := ∃ ms, Own w 48 7 vo ms.length (encN ms) ∧ NewS B vo ∧ RowsN w0 w (fun b => B ≤ b ∧ vo.ownBlock ≠ some b) t ms
variable {B : Nat} {vo : Value} {t : NT}
theorem OutN.nil : OutN w0 B w (.slice none 0 0) .nil := ⟨[], Own.nil, (fun k hk => by cases hk), rfl⟩
theorem OutN.no (h : OutN w0 B w vo t) (hc : Chg w w' No) : OutN w0 B w' vo t := by
  obtain ⟨ms, h1, h2, h3⟩ := h
  exact ⟨ms, h1.no hc, h2, RowsN.chg hc (fun _ _ _ _ => id) t ms h3⟩
theorem OutN.form (h : OutN w0 B w vo t) : ∃ A c, vo = .slice A t.len c ∧ t.len ≤ c := by
  obtain ⟨ms, h1, h2, h3⟩ := h
  have := h1.rd.form
  rwa [RowsN.len t ms h3] at this
theorem OutN.tree (h : OutN w0 B w vo t) : TreeN w0 w (fun b => B ≤ b) vo t := by
  obtain ⟨ms, h1, h2, h3⟩ := h
  exact ⟨ms, h1.rd, fun _ b hb => h2 b hb, RowsN.mono (fun b _ h => h.1) t ms h3⟩
theorem OutN.push {w1 w2 : World} {v' : Value} {m : MN} {x : Hd} {k : NT} {ms : List MN} (g1 : Own w 48 7 vo ms.length (encN ms)) (g2 : NewS B vo) (g3 : RowsN w0 w (fun b => B ≤ b ∧ vo.ownBlock ≠ some b) t ms) (hm : HR w0 m x) (hk : TreeN w0 w (fun b => B ≤ b ∧ vo.ownBlock ≠ some b) m.kids k) (hB : B ≤ w.heap.size)
    (h1 : Chg w w1 No) (hO : Own w2 48 7 v' (ms.length + 1) (encN ms ++ encN [m])) (hc : Chg w1 w2 (fun k => vo.ownBlock = some k)) (hr : v'.ownBlock = vo.ownBlock ∨ ∃ k, v'.ownBlock = some k ∧ w1.heap.size ≤ k) : OutN w0 B w2 v' (t.snoc x k) := by
  refine ⟨ms ++ [m], by rw [List.length_append, encN_app]; exact hO, ?_, ?_⟩
  · intro j hj
    rcases hr with e1 | ⟨q, e1, e2⟩
    · exact g2 j (e1 ▸ hj)
    · rw [hj] at e1; cases e1; have := h1.size; omega
  · have h4 := RowsN.snoc hm hk t ms g3
    have h5 := RowsN.chg h1 (fun _ _ _ _ => id) _ _ h4
    have h6 := RowsN.mono (o8' := fun b => (B ≤ b ∧ vo.ownBlock ≠ some b) ∧ b < w1.heap.size) (fun b hb hq => ⟨hq, hb⟩) _ _ h5
    have h7 := RowsN.chg hc (fun b _ _ hb => hb.1.2) _ _ h6
    refine RowsN.mono (fun b _ hq => ⟨hq.1.1, fun he => ?_⟩) _ _ h7
    rcases hr with e1 | ⟨q, e1, e2⟩
    · exact hq.1.2 (e1 ▸ he)
    · rw [he] at e1; cases e1; omega
end
set_option maxHeartbeats 8000000 in
theorem numbered_calls : ∀ (f : Nat) {w0 w : World} {v : Value} {t : NT} {pb c : Nat}, TreeAt w0 v t → Chg w0 w No → w0.heap.size ≤ pb → FewT t → Blk w pb 87 [.int .i64 c] → t.size ≤ f → f ≤ 100000 → c + t.size ≤ 200000 →
    Calls Try.prog 52 [v, .func (.func 53) #[.pointer (some ⟨pb, 0, none⟩)] #[]].toArray w fun e w' => ∃ vo, e = .returned vo ∧ TreeOk w' (fun b => w.heap.size ≤ b) (fun b => w.heap.size ≤ b) vo (numT (c + 1) t).1 ∧ Blk w' pb 87 [.int .i64 (((numT (c + 1) t).2 - 1 : Nat) : Int)] ∧ Chg w w' (· = pb) := by
  intro f
  induction f with
  | zero =>
    intro w0 w v t pb c h hC0 hge hfew hb hs _ _
    cases t with
    | cons x k r => simp [NT.size] at hs
    | nil =>
      obtain ⟨A, cA, rfl, hc⟩ := h.form
      refine calls_zc (n := 41) (f := 52) (fn := Try.f52) Try.func52 rfl rfl (by simp) ?_
      rw [show NT.nil.len = 0 from rfl]
      refine zc_seq ?_
      refine zc_region ?_
      refine zl_pureL rfl ?_
      refine zl_nil ?_
      refine zk_seq ?_
      iterate 2 (refine zc_seq ?_)
      refine zc_region ?_
      refine zl_pureL rfl ?_
      refine z_len want_none (by decide) rfl ?_
      refine z_cmpB (r := true) want_none (by decide) rfl rfl rfl (iff_of_true rfl (by omega)) ?_
      refine zl_nil ?_
      refine zk_seq ?_
      refine zc_true rfl ?_
      refine zc_seq ?_
      refine zc_region ?_
      refine zl_pureL rfl ?_
      refine zl_nil ?_
      refine zk_seq ?_
      refine zc_ret ?_
      refine zk_ret_then ?_
      exact zk_ret1 (.inr rfl) rfl rfl ⟨_, rfl, TreeOk.nil, hb, Chg.refl _ _⟩
  | succ f ih =>
    intro w0 w v t pb c h hC0 hge hfew hb hs hf hcf
    obtain ⟨A, cA, hv, hc⟩ := h.form
    have hls := t.len_size
    subst hv
    refine calls_zc (n := 41) (f := 52) (fn := Try.f52) Try.func52 rfl rfl (by simp) ?_
    by_cases h0 : t.len = 0
    · have h0' := len0 h0
      subst h0'
      refine zc_seq ?_
      refine zc_region ?_
      refine zl_pureL rfl ?_
      refine zl_nil ?_
      refine zk_seq ?_
      iterate 2 (refine zc_seq ?_)
      refine zc_region ?_
      refine zl_pureL rfl ?_
      refine z_len want_none (by decide) rfl ?_
      refine z_cmpB (r := true) want_none (by decide) rfl rfl rfl (iff_of_true rfl (by omega)) ?_
      refine zl_nil ?_
      refine zk_seq ?_
      refine zc_true rfl ?_
      refine zc_seq ?_
      refine zc_region ?_
      refine zl_pureL rfl ?_
      refine zl_nil ?_
      refine zk_seq ?_
      refine zc_ret ?_
      refine zk_ret_then ?_
      exact zk_ret1 (.inr rfl) rfl rfl ⟨_, rfl, TreeOk.nil, hb, Chg.refl _ _⟩
    refine zc_seq ?_
    refine zc_region ?_
    refine zl_pureL rfl ?_
    refine zl_nil ?_
    refine zk_seq ?_
    iterate 2 (refine zc_seq ?_)
    refine zc_region ?_
    refine zl_pureL rfl ?_
    refine z_len want_none (by decide) rfl ?_
    refine z_cmpB (r := false) want_none (by decide) rfl rfl rfl (iff_of_false Bool.false_ne_true (by omega)) ?_
    refine zl_nil ?_
    refine zk_seq ?_
    refine zc_false rfl ?_
    refine zc_skip ?_
    refine zk_seq ?_
    refine zc_seq ?_
    refine zc_region ?_
    refine zl_pureL rfl ?_
    refine z_len want_none (by decide) rfl ?_
    refine z_make (by first | exact want_none | exact want_L rfl) (by decide) rfl rfl (Nat.zero_le _) (by omega) (by omega) (fun w1 b1 hN1 => ?_)
    have hO1 : Own w1 48 7 _ 0 [] := Own.made hN1 (by unfold maxLen; omega)
    have hOut1 : Out w.heap.size (fun b => w.heap.size ≤ b) w1 (.slice (some ⟨b1, 0, none⟩) 0 t.len) .nil := ⟨[], hO1, (fun k hk => by simp [Value.ownBlock] at hk; subst hk; exact hN1.ge (Chg.refl _ No)), rfl⟩
    have hb1 := hb.no hN1.chg
    have hC1 : Chg w w1 (· = pb) := hN1.chg.mono (fun _ _ h => h.elim)
    refine zl_pureL rfl ?_
    refine zl_nil ?_
    refine zk_seq ?_
    iterate 2 (refine zc_seq ?_)
    refine zc_region ?_
    refine zl_pureL rfl ?_
    refine z_len want_none (by decide) rfl ?_
    refine zl_pureL rfl ?_
    refine zl_nil ?_
    refine zk_seq ?_
    refine zc_block ?_
    refine zc_loopW (ι := Nat × Value × NT × Nat) (fun q u => [(1, .func (.func 53) #[.pointer (some ⟨pb, 0, none⟩)] #[]), (5, q.2.1), (14, .slice A t.len cA), (15, .int .i64 t.len), (16, .int .i64 q.1)])
      (fun q u => q.1 ≤ t.len ∧ Out w.heap.size (fun b => w.heap.size ≤ b) u q.2.1 q.2.2.1 ∧ q.2.2.1.len = q.1 ∧ Blk u pb 87 [.int .i64 (q.2.2.2 : Nat)] ∧ q.2.2.2 + (t.dropN q.1).size ≤ c + t.size ∧
        q.2.2.1.app (numT (q.2.2.2 + 1) (t.dropN q.1)).1 = (numT (c + 1) t).1 ∧ (numT (q.2.2.2 + 1) (t.dropN q.1)).2 = (numT (c + 1) t).2 ∧ Chg w u (· = pb)) (fun q u => t.len - q.1) (0, .slice (some ⟨b1, 0, none⟩) 0 t.len, .nil, c)
      ⟨Nat.zero_le _, hOut1, rfl, hb1, Nat.le_refl _, rfl, rfl, hC1⟩ ?_ ?_
    · exact ⟨rfl, rfl, rfl, rfl, rfl, trivial⟩
    rintro ⟨i, vo, Q, ci⟩ u ⟨hi, hOut, hQl, hpb, hci, hd1, hd2, hC⟩
    dsimp only at hi hOut hQl hpb hci hd1 hd2 ⊢
    have hbw := hb.lt
    by_cases hlt : i < t.len
    · have hCu : Chg w0 u No := hC0.trans hC (fun i hi he => by omega)
      obtain ⟨b, o, c', x, k, r, A', K, e1, hv, hN, hA, hK⟩ := h.at_ i hlt
      cases hv
      have hsz := t.drop_size i
      rw [e1] at hsz hd1 hd2 hci
      simp only [NT.size] at hsz hci
      obtain ⟨hxa, hfk, hfr⟩ := hfew.drop t i x k r e1
      obtain ⟨A2, c2, rfl, _⟩ := hA.form
      obtain ⟨A3, c3, rfl, _⟩ := hK.form
      refine zc_seq ?_
      refine zc_region ?_
      refine z_cmpB (r := true) want_none (by decide) rfl rfl rfl (iff_of_true rfl (by omega)) ?_
      refine zl_nil ?_
      refine zk_seq ?_
      refine zc_seq ?_
      refine zc_true rfl ?_
      refine zc_skip ?_
      refine zk_seq ?_
      refine zc_seq ?_
      refine zc_block ?_
      refine zc_seq ?_
      refine zc_region ?_
      refine z_ia want_none (by decide) rfl rfl (by omega) (by omega) ?_
      refine z_loadA (by rfl) (by first | exact want_none | exact want_L rfl) (by decide) rfl ((hN.no hCu).agg (by omega)) ?_
      refine z_alloc (by first | exact want_none | exact want_L rfl) (by decide) (fun u1 b1 hN1 => ?_)
      have hb1 : Blk u1 b1 48 [.int .i64 0, .int .i64 0, .string ⟨#[]⟩, .slice none 0 0, .string ⟨#[]⟩, .int .i64 0, .slice none 0 0] := hN1.blk
      skip
      refine z_store (by first | exact want_none | exact want_L rfl) rfl rfl rfl (by assumption) (by first | exact Nat.le_refl _ | simp [Value.cells]) (by simp [Value.cells, Value.oneCell']) (fun u2 hU2 => ?_)
      have hb2 : Blk u2 b1 48 [.int .i64 x.kind, .int .i64 x.space, .string x.name, .slice A2 x.attrs.length c2, .string x.text, .int .i64 x.fr, .slice A3 k.len c3] := hU2.blk
      have hC2 := hN1.chg.upd hU2 (hN1.ge (Chg.refl _ No))
      have hpb2 := hpb.no hC2
      have hub := hpb.lt
      have hb1u : u.heap.size ≤ b1 := Nat.le_of_eq hN1.at_.symm
      have hfrd : (numH (ci + 1) x).fr = if x.kind = 2 then ((ci + 1 : Nat) : Int) else x.fr := by unfold numH; split <;> rfl
      refine zl_nil ?_
      refine zk_seq ?_
      refine zc_mid (fun u' => Blk u' b1 48 [.int .i64 x.kind, .int .i64 x.space, .string x.name, .slice A2 x.attrs.length c2, .string x.text, .int .i64 (numH (ci + 1) x).fr, .slice A3 k.len c3] ∧ Blk u' pb 87 [.int .i64 ((nxt (ci + 1) x - 1 : Nat) : Int)] ∧ Chg u u' (· = pb))
        [(1, .func (.func 53) #[.pointer (some ⟨pb, 0, none⟩)] #[]), (5, vo), (7, .pointer (some ⟨b1, 0, none⟩)), (14, .slice (some ⟨b, o, none⟩) t.len cA), (15, .int .i64 t.len), (16, .int .i64 i)] ?_ ?_
      · by_cases hk2 : x.kind = 2
        · have hnx : nxt (ci + 1) x - 1 = ci + 1 := by unfold nxt; rw [if_pos hk2]; omega
          refine zc_seq ?_
          refine zc_region ?_
          refine z_fa want_none (by decide) rfl ?_
          refine z_loadB want_none (by decide) rfl (by assumption) (by rfl) ?_
          refine z_cmpB (r := true) want_none (by decide) rfl rfl rfl (iff_of_true rfl (by omega)) ?_
          refine zl_nil ?_
          refine zk_seq ?_
          refine zc_true rfl ?_
          refine zc_region ?_
          refine zl_pureL rfl ?_
          refine z_callF (us := [.pointer (some ⟨pb, 0, none⟩)]) (vs := []) (by first | exact want_none | exact want_L rfl) rfl (by decide) rfl rfl (next_calls hpb2 (by omega)) ?_
          rintro _ u3 ⟨rfl, hpb3, hC3⟩
          refine ⟨_, rfl, ?_⟩
          have hb3 := hb2.chg hC3 (fun he => by have := hub; omega)
          refine z_fa want_none (by decide) rfl ?_
          refine z_store (by first | exact want_none | exact want_L rfl) rfl rfl rfl (by assumption) (by first | exact Nat.le_refl _ | simp [Value.cells]) (by simp [Value.cells, Value.oneCell']) (fun u4 hU4 => ?_)
          refine zl_nil ?_
          refine zk_mid ⟨by rw [hfrd, if_pos hk2]; exact hU4.blk, by rw [hnx]; exact hpb3.upd hU4 (by decide), ?_⟩ ⟨rfl, rfl, rfl, rfl, rfl, rfl, trivial⟩
          exact ((hC2.mono (fun _ _ h => h.elim)).trans hC3 (fun _ _ h => h)).trans hU4.chg (fun i hi he => by subst he; omega)
        · have hnx : nxt (ci + 1) x - 1 = ci := by unfold nxt; rw [if_neg hk2]; omega
          refine zc_seq ?_
          refine zc_region ?_
          refine z_fa want_none (by decide) rfl ?_
          refine z_loadB want_none (by decide) rfl (by assumption) (by rfl) ?_
          refine z_cmpB (r := false) want_none (by decide) rfl rfl rfl (iff_of_false Bool.false_ne_true (by omega)) ?_
          refine zl_nil ?_
          refine zk_seq ?_
          refine zc_false rfl ?_
          refine zc_skip ?_
          exact zk_mid ⟨by rw [hfrd, if_neg hk2]; exact hb2, by rw [hnx]; exact hpb2, hC2.mono (fun _ _ h => h.elim)⟩ ⟨rfl, rfl, rfl, rfl, rfl, rfl, trivial⟩
      rintro u5 ⟨hb5, hpb5, hC5⟩
      have hnl := nxt_le (ci + 1) x
      refine zc_seq ?_
      refine zc_region ?_
      refine z_fa want_none (by decide) rfl ?_
      refine z_loadB want_none (by decide) rfl (by assumption) (by rfl) ?_
      refine zl_call (by first | exact want_none | exact want_L rfl) rfl (by decide) rfl (copied_calls (hA.no (hCu.trans hC5 (fun i hi he => by omega))) hxa) ?_
      rintro _ u6 ⟨v6, rfl, ha6, hn6, hC6⟩
      refine ⟨_, rfl, ?_⟩
      obtain ⟨A6, c6, rfl, _⟩ := ha6.form
      have hb6 := hb5.no hC6
      have hpb6 := hpb5.no hC6
      refine z_fa want_none (by decide) rfl ?_
      refine z_store (by first | exact want_none | exact want_L rfl) rfl rfl rfl (by assumption) (by first | exact Nat.le_refl _ | simp [Value.cells]) (by simp [Value.cells, Value.oneCell']) (fun u7 hU7 => ?_)
      have hb7 : Blk u7 b1 48 [.int .i64 x.kind, .int .i64 x.space, .string x.name, .slice A6 x.attrs.length c6, .string x.text, .int .i64 (numH (ci + 1) x).fr, .slice A3 k.len c3] := hU7.blk
      have hpb7 := hpb6.upd hU7 (by decide)
      have hC7 : Chg u u7 (· = pb) := (hC5.no hC6).trans hU7.chg (fun i hi he => by subst he; omega)
      have ha7 : D.AttrS u7 (.slice A6 x.attrs.length c6) x.attrs := RdS.upd ha6 hU7 (by decide)
      have hCu7 : Chg w0 u7 No := hCu.trans hC7 (fun i hi he => by omega)
      have hpbe : nxt (ci + 1) x - 1 + 1 = nxt (ci + 1) x := by omega
      have hle := numT_le (nxt (ci + 1) x) k
      refine zl_nil ?_
      refine zk_seq ?_
      refine zc_seq ?_
      refine zc_region ?_
      refine z_fa want_none (by decide) rfl ?_
      refine z_loadB want_none (by decide) rfl (by assumption) (by rfl) ?_
      refine zl_pureL rfl ?_
      refine zl_call (by first | exact want_none | exact want_L rfl) rfl (by decide) rfl (ih hK hCu7 hge hfk hpb7 (by omega) (by omega) (by omega)) ?_
      rintro _ u8 ⟨v8, rfl, hT8, hpb8, hC8⟩
      rw [hpbe] at hT8 hpb8
      refine ⟨_, rfl, ?_⟩
      obtain ⟨A8, c8, rfl, _⟩ := hT8.at'.form
      have hb8 := hb7.chg hC8 (fun he => by omega)
      have ha8 : D.AttrS u8 (.slice A6 x.attrs.length c6) x.attrs := RdS.chg ha7 hC8 (fun b cells hb he => hb.ne hpb7 (by decide) he)
      refine z_fa want_none (by decide) rfl ?_
      refine z_store (by first | exact want_none | exact want_L rfl) rfl rfl rfl (by assumption) (by first | exact Nat.le_refl _ | simp [Value.cells]) (by simp [Value.cells, Value.oneCell']) (fun u9 hU9 => ?_)
      have hb9 : Blk u9 b1 48 [.int .i64 x.kind, .int .i64 x.space, .string x.name, .slice A6 x.attrs.length c6, .string x.text, .int .i64 (numH (ci + 1) x).fr, .slice A8 (numT (nxt (ci + 1) x) k).1.len c8] := hU9.blk
      have hC9 : Chg u u9 (· = pb) := (hC7.trans hC8 (fun _ _ h => h)).trans hU9.chg (fun i hi he => by subst he; omega)
      have hb1s := hb7.lt
      have hT9 := hT8.chg hU9.chg (fun b _ _ hk he => by omega) (fun b cells hk _ he => hk.ne hb8 (by decide) he)
      have ha9 : D.AttrS u9 (.slice A6 x.attrs.length c6) x.attrs := RdS.upd ha8 hU9 (by decide)
      have hpb9 := hpb8.upd hU9 (by decide)
      have hOut9 := hOut.blk hpb hC9 (by decide) (by decide)
      have hus : u.heap.size ≤ u7.heap.size := hC7.size
      have hus9 : u7.heap.size ≤ u9.heap.size := Nat.le_trans hC8.size hU9.chg.size
      have hvlt : ∀ k, vo.ownBlock = some k → k < u.heap.size := fun k hk => by obtain ⟨ms, g1, _, _⟩ := hOut; exact g1.lt hk
      obtain ⟨A0, c0, hv0, hc0⟩ := hOut.form
      obtain ⟨ms, g1, g2, g3⟩ := hOut9
      have hml := D.Rows.len _ ms (RowsOk.rows _ ms g3)
      have hBu : w.heap.size ≤ u.heap.size := hC.size
      refine zl_nil ?_
      refine zk_seq ?_
      refine zc_region ?_
      refine zl_pureL rfl ?_
      refine z_loadAB want_none (by decide) rfl (by assumption) (by rfl) ?_
      refine z_bs1 (by first | exact want_none | exact want_L rfl) (by decide) rfl (by rfl) (by rfl) (by decide) (by decide) (fun u10 b10 hN10 => ?_)
      have hx9 : D.HR u9 ⟨x.kind, x.space, x.name, .slice A6 x.attrs.length c6, x.text, (numH (ci + 1) x).fr, .slice A8 (numT (nxt (ci + 1) x) k).1.len c8⟩ (numH (ci + 1) x) := by
        refine ⟨(numH_kind _ _).symm, ?_, ?_, by rw [numH_attrs]; exact ha9, (numH_text _ _).symm, rfl⟩
        · unfold numH; split <;> rfl
        · unfold numH; split <;> rfl
      have hR : RdS u10 48 7 (.slice (some ⟨b10, 0, none⟩) 1 1) 1 (encN [⟨x.kind, x.space, x.name, .slice A6 x.attrs.length c6, x.text, (numH (ci + 1) x).fr, .slice A8 (numT (nxt (ci + 1) x) k).1.len c8⟩]) := by
        obtain ⟨ks, h1, _, _⟩ := hT9
        exact RdS.node hx9 h1 hN10
      refine z_appendO (by rfl) (by decide) (by first | exact want_none | exact want_L rfl) (by decide) rfl rfl (g1.no hN10.chg) hR (by omega) (by omega) (fun v11 u11 hO11 hC11 hr11 => ?_)
      have hpb11 := (hpb9.no hN10.chg).chg hC11 (fun he => (g1.no hN10.chg).ne he (hpb9.no hN10.chg) (by decide) rfl)
      have hOut11 := Out.push g1 g2 g3 hx9 (by rw [numH_attrs]; intro hl b hb; have := hn6 b (by simpa [Value.ownBlock] using hb); have := hC5.size; omega)
        (hT9.mono (fun b hb hk => ⟨by omega, fun he => by have := hvlt b he; omega⟩) (fun b hb hk => by omega)) (by omega) hN10.chg hO11 hC11 hr11
      refine zl_pureL rfl ?_
      refine zl_nil ?_
      refine zk_norm_block ?_
      refine zk_seq ?_
      refine zc_region ?_
      refine z_add want_none (by decide) rfl rfl (by omega) (by omega) ?_
      refine zl_pureL rfl ?_
      refine zl_nil ?_
      refine zk_loopW (i + 1, v11, Q.snoc (numH (ci + 1) x) (numT (nxt (ci + 1) x) k).1, (numT (nxt (ci + 1) x) k).2 - 1) ⟨by omega, hOut11, by rw [NT.snoc_len, hQl], hpb11, ?_, ?_, ?_, ?_⟩ (by show t.len - (i + 1) < t.len - i; omega) ⟨rfl, rfl, rfl, rfl, get_int rfl (by simp), trivial⟩
      · dsimp only
        rw [t.drop_succ i x k r e1]
        omega
      · dsimp only
        rw [t.drop_succ i x k r e1, NT.snoc_app, ← hd1]
        simp only [numT]
        rw [show (numT (nxt (ci + 1) x) k).2 - 1 + 1 = (numT (nxt (ci + 1) x) k).2 by omega]
      · dsimp only
        rw [t.drop_succ i x k r e1, ← hd2]
        simp only [numT]
        rw [show (numT (nxt (ci + 1) x) k).2 - 1 + 1 = (numT (nxt (ci + 1) x) k).2 by omega]
      · refine ((hC.trans hC9 (fun _ _ h => h)).no hN10.chg).trans hC11 (fun i hi he => ?_)
        have := g2 i he; omega
    · obtain rfl : i = t.len := by omega
      rw [t.drop_len] at hd1 hd2
      simp only [numT, NT.app_nil] at hd1 hd2
      subst hd1
      refine zc_seq ?_
      refine zc_region ?_
      refine z_cmpB (r := false) want_none (by decide) rfl rfl rfl (iff_of_false Bool.false_ne_true (by omega)) ?_
      refine zl_nil ?_
      refine zk_seq ?_
      refine zc_seq ?_
      refine zc_false rfl ?_
      refine zc_exit ?_
      iterate 2 (refine zk_exit_then ?_)
      refine zk_exit_block ?_
      refine zk_seq ?_
      refine zc_seq ?_
      refine zc_region ?_
      iterate 2 (refine zl_pureL rfl ?_)
      refine zl_nil ?_
      refine zk_seq ?_
      refine zc_ret ?_
      refine zk_ret1 (.inr rfl) rfl rfl ⟨_, rfl, hOut.tree, ?_, hC⟩
      rw [← hd2]; exact hpb
theorem number_calls {w : World} {v : Value} {t : NT} (h : TreeAt w v t) (hfew : FewT t) (hs : t.size ≤ 100000) :
    Calls Try.prog 30 [v].toArray w fun e w' => ∃ vo, e = .returned vo ∧ D.TreeAt w' vo (numT 1 t).1 ∧ Chg w w' No := by
  obtain ⟨A, cA, rfl, hc⟩ := h.form
  refine calls_zc (n := 10) (f := 30) (fn := Try.f30) Try.func30 rfl rfl (by simp) ?_
  refine zc_seq ?_
  refine zc_region ?_
  refine zl_pureL rfl ?_
  refine zl_nil ?_
  refine zk_seq ?_
  refine zc_seq ?_
  refine zc_region ?_
  refine z_buildE #[.int .i64 0] (by first | exact want_none | exact want_L rfl) (by decide) rfl (by kernel_rfl) ?_
  refine z_box (by first | exact want_none | exact want_L rfl) (by decide) rfl (fun w1 b1 hN1 => ?_)
  have hb1 : Blk w1 b1 87 [.int .i64 ((0 : Nat) : Int)] := hN1.blk
  refine zl_pureL rfl ?_
  refine zl_nil ?_
  refine zk_seq ?_
  refine zc_seq ?_
  refine zc_region ?_
  iterate 2 (refine zl_pureL rfl ?_)
  refine z_makeFunc (vs := [.pointer (some ⟨b1, 0, none⟩)]) (by first | exact want_none | exact want_L rfl) (by decide) rfl ?_
  refine zl_call (by first | exact want_none | exact want_L rfl) rfl (by decide) rfl (numbered_calls t.size h hN1.chg (Nat.le_of_eq hN1.at_.symm) hfew hb1 (Nat.le_refl _) hs (by omega)) ?_
  rintro _ w2 ⟨vo, rfl, hT, hb2, hC2⟩
  refine ⟨_, rfl, ?_⟩
  have hT' := hT.at'
  obtain ⟨A2, c2, rfl, _⟩ := hT'.form
  refine zl_pureL rfl ?_
  refine zl_nil ?_
  refine zk_seq ?_
  refine zc_ret ?_
  exact zk_ret1 (.inr rfl) rfl rfl ⟨_, rfl, hT', hN1.chg.trans hC2 (fun i hi he => by subst he; have := hN1.at_; omega)⟩
set_option maxHeartbeats 8000000 in
theorem numberR_calls : ∀ (f : Nat) {w0 w : World} {v : Value} {t : NT} {n : Nat}, TreeAt w0 v t → Chg w0 w No → FewT t → t.size ≤ f → f ≤ 100000 → n + t.size ≤ 200000 →
    Calls Try.prog 56 [v, .int .i64 n].toArray w fun e w' => ∃ vo, e = .returned (.tuple #[vo, .int .i64 ((numT n t).2 : Nat)]) ∧ TreeN w0 w' (fun b => w.heap.size ≤ b) vo (numT n t).1 ∧ Chg w w' No := by
  intro f
  induction f with
  | zero =>
    intro w0 w v t n h hC0 hfew hs _ _
    cases t with
    | cons x k r => simp [NT.size] at hs
    | nil =>
      obtain ⟨A, cA, rfl, hc⟩ := h.form
      refine calls_zc (n := 40) (f := 56) (fn := Try.f56) Try.func56 rfl rfl (by simp) ?_
      rw [show NT.nil.len = 0 from rfl]
      refine zc_seq ?_
      refine zc_region ?_
      iterate 2 (refine zl_pureL rfl ?_)
      refine zl_nil ?_
      refine zk_seq ?_
      refine zc_seq ?_
      refine zc_region ?_
      refine zl_pureL rfl ?_
      refine zl_nil ?_
      refine zk_seq ?_
      iterate 2 (refine zc_seq ?_)
      refine zc_region ?_
      refine zl_pureL rfl ?_
      refine zl_nil ?_
      refine zk_seq ?_
      refine zc_block ?_
      refine zc_loopW (ι := Nat) (fun i u => [(0, .slice A 0 cA), (1, .int .i64 n), (6, .slice none 0 0), (7, .int .i64 0)]) (fun i u => u = w) (fun i u => 0) 0 rfl ?_ ?_
      · exact ⟨rfl, rfl, rfl, rfl, trivial⟩
      rintro i u rfl
      iterate 2 (refine zc_seq ?_)
      refine zc_region ?_
      iterate 2 (refine zl_pureL rfl ?_)
      refine z_len want_none (by decide) rfl ?_
      refine z_cmpB (r := false) want_none (by decide) rfl rfl rfl (iff_of_false Bool.false_ne_true (by omega)) ?_
      refine zl_nil ?_
      refine zk_seq ?_
      refine zc_false rfl ?_
      refine zc_exit ?_
      iterate 2 (refine zk_exit_then ?_)
      refine zk_exit_block ?_
      refine zk_seq ?_
      refine zc_seq ?_
      refine zc_region ?_
      iterate 4 (refine zl_pureL rfl ?_)
      refine zl_nil ?_
      refine zk_seq ?_
      refine zc_ret ?_
      exact zk_ret2 (.inr rfl) rfl rfl rfl ⟨_, rfl, TreeN.nil, Chg.refl _ _⟩
  | succ f ih =>
    intro w0 w v t n h hC0 hfew hs hf hnf
    obtain ⟨A, cA, hv, hc⟩ := h.form
    have hls := t.len_size
    subst hv
    refine calls_zc (n := 40) (f := 56) (fn := Try.f56) Try.func56 rfl rfl (by simp) ?_
    refine zc_seq ?_
    refine zc_region ?_
    iterate 2 (refine zl_pureL rfl ?_)
    refine zl_nil ?_
    refine zk_seq ?_
    refine zc_seq ?_
    refine zc_region ?_
    refine zl_pureL rfl ?_
    refine zl_nil ?_
    refine zk_seq ?_
    iterate 2 (refine zc_seq ?_)
    refine zc_region ?_
    refine zl_pureL rfl ?_
    refine zl_nil ?_
    refine zk_seq ?_
    refine zc_block ?_
    refine zc_loopW (ι := Nat × Value × NT × Nat) (fun q u => [(0, .slice A t.len cA), (1, .int .i64 (q.2.2.2 : Nat)), (6, q.2.1), (7, .int .i64 q.1)])
      (fun q u => q.1 ≤ t.len ∧ OutN w0 w.heap.size u q.2.1 q.2.2.1 ∧ q.2.2.1.len = q.1 ∧ q.2.2.2 + (t.dropN q.1).size ≤ n + t.size ∧
        q.2.2.1.app (numT q.2.2.2 (t.dropN q.1)).1 = (numT n t).1 ∧ (numT q.2.2.2 (t.dropN q.1)).2 = (numT n t).2 ∧ Chg w u No) (fun q u => t.len - q.1) (0, .slice none 0 0, .nil, n)
      ⟨Nat.zero_le _, OutN.nil, rfl, Nat.le_refl _, rfl, rfl, Chg.refl _ _⟩ ?_ ?_
    · exact ⟨rfl, rfl, rfl, rfl, trivial⟩
    rintro ⟨i, vo, Q, ci⟩ u ⟨hi, hOut, hQl, hci, hd1, hd2, hC⟩
    dsimp only at hi hOut hQl hci hd1 hd2 ⊢
    by_cases hlt : i < t.len
    · obtain ⟨b, o, c', x, k, r, A', K, e1, hv, hN, hA, hK⟩ := h.at_ i hlt
      cases hv
      have hsz := t.drop_size i
      rw [e1] at hsz hd1 hd2 hci
      simp only [NT.size] at hsz hci
      obtain ⟨hxa, hfk, hfr⟩ := hfew.drop t i x k r e1
      obtain ⟨A2, c2, rfl, _⟩ := hA.form
      obtain ⟨A3, c3, rfl, _⟩ := hK.form
      iterate 2 (refine zc_seq ?_)
      refine zc_region ?_
      iterate 2 (refine zl_pureL rfl ?_)
      refine z_len want_none (by decide) rfl ?_
      refine z_cmpB (r := true) want_none (by decide) rfl rfl rfl (iff_of_true rfl (by omega)) ?_
      refine zl_nil ?_
      refine zk_seq ?_
      refine zc_true rfl ?_
      refine zc_skip ?_
      refine zk_seq ?_
      refine zc_seq ?_
      refine zc_block ?_
      refine zc_seq ?_
      refine zc_region ?_
      iterate 2 (refine zl_pureL rfl ?_)
      refine z_ia want_none (by decide) rfl rfl (by omega) (by omega) ?_
      refine z_loadA (by rfl) (by first | exact want_none | exact want_L rfl) (by decide) rfl ((hN.no (hC0.no hC)).agg (by omega)) ?_
      refine z_alloc (by first | exact want_none | exact want_L rfl) (by decide) (fun u1 b1 hN1 => ?_)
      have hb1 : Blk u1 b1 48 [.int .i64 0, .int .i64 0, .string ⟨#[]⟩, .slice none 0 0, .string ⟨#[]⟩, .int .i64 0, .slice none 0 0] := hN1.blk
      skip
      refine z_store (by first | exact want_none | exact want_L rfl) rfl rfl rfl (by assumption) (by first | exact Nat.le_refl _ | simp [Value.cells]) (by simp [Value.cells, Value.oneCell']) (fun u2 hU2 => ?_)
      have hb2 : Blk u2 b1 48 [.int .i64 x.kind, .int .i64 x.space, .string x.name, .slice A2 x.attrs.length c2, .string x.text, .int .i64 x.fr, .slice A3 k.len c3] := hU2.blk
      have hC2 := hN1.chg.upd hU2 (hN1.ge (Chg.refl _ No))
      have hb1u : u.heap.size ≤ b1 := Nat.le_of_eq hN1.at_.symm
      have hfrd : (numH ci x).fr = if x.kind = 2 then (ci : Int) else x.fr := by unfold numH; split <;> rfl
      have hnl := nxt_le ci x
      refine zl_nil ?_
      refine zk_seq ?_
      refine zc_mid (fun u' => Blk u' b1 48 [.int .i64 x.kind, .int .i64 x.space, .string x.name, .slice A2 x.attrs.length c2, .string x.text, .int .i64 (numH ci x).fr, .slice A3 k.len c3] ∧ Chg u u' No)
        [(0, .slice (some ⟨b, o, none⟩) t.len cA), (1, .int .i64 (nxt ci x : Nat)), (6, vo), (7, .int .i64 i), (8, .pointer (some ⟨b1, 0, none⟩))] ?_ ?_
      · by_cases hk2 : x.kind = 2
        · refine zc_seq ?_
          refine zc_region ?_
          refine z_fa want_none (by decide) rfl ?_
          refine z_loadB want_none (by decide) rfl (by assumption) (by rfl) ?_
          refine z_cmpB (r := true) want_none (by decide) rfl rfl rfl (iff_of_true rfl (by omega)) ?_
          refine zl_nil ?_
          refine zk_seq ?_
          refine zc_true rfl ?_
          refine zc_seq ?_
          refine zc_region ?_
          refine zl_pureL rfl ?_
          refine z_fa want_none (by decide) rfl ?_
          refine z_store (by first | exact want_none | exact want_L rfl) rfl rfl rfl (by assumption) (by first | exact Nat.le_refl _ | simp [Value.cells]) (by simp [Value.cells, Value.oneCell']) (fun u4 hU4 => ?_)
          refine zl_nil ?_
          refine zk_seq ?_
          refine zc_region ?_
          refine zl_pureL rfl ?_
          refine z_add want_none (by decide) rfl rfl (by omega) (by omega) ?_
          refine zl_pureL rfl ?_
          refine zl_nil ?_
          exact zk_mid ⟨by rw [hfrd, if_pos hk2]; exact hU4.blk, hC2.upd hU4 hb1u⟩ ⟨rfl, by unfold nxt; rw [if_pos hk2]; rfl, rfl, rfl, rfl, trivial⟩
        · refine zc_seq ?_
          refine zc_region ?_
          refine z_fa want_none (by decide) rfl ?_
          refine z_loadB want_none (by decide) rfl (by assumption) (by rfl) ?_
          refine z_cmpB (r := false) want_none (by decide) rfl rfl rfl (iff_of_false Bool.false_ne_true (by omega)) ?_
          refine zl_nil ?_
          refine zk_seq ?_
          refine zc_false rfl ?_
          refine zc_skip ?_
          exact zk_mid ⟨by rw [hfrd, if_neg hk2]; exact hb2, hC2⟩ ⟨rfl, by unfold nxt; rw [if_neg hk2]; rfl, rfl, rfl, rfl, trivial⟩
      rintro u5 ⟨hb5, hC5⟩
      refine zc_seq ?_
      refine zc_region ?_
      refine z_fa want_none (by decide) rfl ?_
      refine z_loadB want_none (by decide) rfl (by assumption) (by rfl) ?_
      refine zl_pureL rfl ?_
      refine zl_call (by first | exact want_none | exact want_L rfl) rfl (by decide) rfl (ih hK (hC0.no (hC.no hC5)) hfk (by omega) (by omega) (by omega)) ?_
      rintro _ u8 ⟨v8, rfl, hT8, hC8⟩
      refine ⟨_, rfl, ?_⟩
      have hle := numT_le (nxt ci x) k
      obtain ⟨A8, c8, rfl, _⟩ := hT8.form
      have hb8 := hb5.no hC8
      iterate 3 (refine zl_pureL rfl ?_)
      refine z_fa want_none (by decide) rfl ?_
      refine z_store (by first | exact want_none | exact want_L rfl) rfl rfl rfl (by assumption) (by first | exact Nat.le_refl _ | simp [Value.cells]) (by simp [Value.cells, Value.oneCell']) (fun u9 hU9 => ?_)
      have hb9 : Blk u9 b1 48 [.int .i64 x.kind, .int .i64 x.space, .string x.name, .slice A2 x.attrs.length c2, .string x.text, .int .i64 (numH ci x).fr, .slice A8 (numT (nxt ci x) k).1.len c8] := hU9.blk
      have hC9 : Chg u u9 No := (hC5.no hC8).upd hU9 hb1u
      have hb1s := hb5.lt
      have hT9 := hT8.chg hU9.chg (fun b _ _ hk he => by omega)
      have hOut9 := hOut.no hC9
      have hus : u.heap.size ≤ u5.heap.size := hC5.size
      have hus9 : u5.heap.size ≤ u9.heap.size := Nat.le_trans hC8.size hU9.chg.size
      have hvlt : ∀ k, vo.ownBlock = some k → k < u.heap.size := fun k hk => by obtain ⟨ms, g1, _, _⟩ := hOut; exact g1.lt hk
      obtain ⟨A0, c0, hv0, hc0⟩ := hOut.form
      obtain ⟨ms, g1, g2, g3⟩ := hOut9
      have hml := RowsN.len _ ms g3
      have hBu : w.heap.size ≤ u.heap.size := hC.size
      refine zl_pureL rfl ?_
      refine zl_nil ?_
      refine zk_seq ?_
      refine zc_region ?_
      refine zl_pureL rfl ?_
      refine z_loadAB want_none (by decide) rfl (by assumption) (by rfl) ?_
      refine z_bs1 (by first | exact want_none | exact want_L rfl) (by decide) rfl (by rfl) (by rfl) (by decide) (by decide) (fun u10 b10 hN10 => ?_)
      have hx9 : HR w0 ⟨x.kind, x.space, x.name, .slice A2 x.attrs.length c2, x.text, (numH ci x).fr, .slice A8 (numT (nxt ci x) k).1.len c8⟩ (numH ci x) := by
        refine ⟨(numH_kind _ _).symm, ?_, ?_, by rw [numH_attrs]; exact hA, (numH_text _ _).symm, rfl⟩
        · unfold numH; split <;> rfl
        · unfold numH; split <;> rfl
      have hR : RdS u10 48 7 (.slice (some ⟨b10, 0, none⟩) 1 1) 1 (encN [⟨x.kind, x.space, x.name, .slice A2 x.attrs.length c2, x.text, (numH ci x).fr, .slice A8 (numT (nxt ci x) k).1.len c8⟩]) := by
        obtain ⟨ks, h1, _, _⟩ := hT9
        exact RdS.nodeN hx9 h1 hN10
      refine z_appendO (by rfl) (by decide) (by first | exact want_none | exact want_L rfl) (by decide) rfl rfl (g1.no hN10.chg) hR (by omega) (by omega) (fun v11 u11 hO11 hC11 hr11 => ?_)
      have hOut11 := OutN.push g1 g2 g3 hx9
        (hT9.mono (fun b hb hk => ⟨by omega, fun he => by have := hvlt b he; omega⟩)) (by omega) hN10.chg hO11 hC11 hr11
      refine zl_pureL rfl ?_
      refine zl_nil ?_
      refine zk_norm_block ?_
      refine zk_seq ?_
      refine zc_region ?_
      refine zl_pureL rfl ?_
      refine z_add want_none (by decide) rfl rfl (by omega) (by omega) ?_
      refine zl_pureL rfl ?_
      refine zl_nil ?_
      refine zk_loopW (i + 1, v11, Q.snoc (numH ci x) (numT (nxt ci x) k).1, (numT (nxt ci x) k).2) ⟨by omega, hOut11, by rw [NT.snoc_len, hQl], ?_, ?_, ?_, ?_⟩ (by show t.len - (i + 1) < t.len - i; omega) ⟨rfl, rfl, rfl, get_int rfl (by simp), trivial⟩
      · dsimp only
        rw [t.drop_succ i x k r e1]
        omega
      · dsimp only
        rw [t.drop_succ i x k r e1, NT.snoc_app, ← hd1]
        simp only [numT]
      · dsimp only
        rw [t.drop_succ i x k r e1, ← hd2]
        simp only [numT]
      · refine ((hC.no hC9).no hN10.chg).trans hC11 (fun i hi he => ?_)
        have := g2 i he; omega
    · obtain rfl : i = t.len := by omega
      rw [t.drop_len] at hd1 hd2
      simp only [numT, NT.app_nil] at hd1 hd2
      subst hd1
      subst hd2
      obtain ⟨A0, c0, rfl, hc0⟩ := hOut.form
      iterate 2 (refine zc_seq ?_)
      refine zc_region ?_
      iterate 2 (refine zl_pureL rfl ?_)
      refine z_len want_none (by decide) rfl ?_
      refine z_cmpB (r := false) want_none (by decide) rfl rfl rfl (iff_of_false Bool.false_ne_true (by omega)) ?_
      refine zl_nil ?_
      refine zk_seq ?_
      refine zc_false rfl ?_
      refine zc_exit ?_
      iterate 2 (refine zk_exit_then ?_)
      refine zk_exit_block ?_
      refine zk_seq ?_
      refine zc_seq ?_
      refine zc_region ?_
      iterate 4 (refine zl_pureL rfl ?_)
      refine zl_nil ?_
      refine zk_seq ?_
      refine zc_ret ?_
      exact zk_ret2 (.inr rfl) rfl rfl rfl ⟨_, rfl, hOut.tree, hC⟩
theorem NumberR_calls {w : World} {v : Value} {t : NT} (h : TreeAt w v t) (hfew : FewT t) (hs : t.size ≤ 100000) :
    Calls Try.prog 33 [v].toArray w fun e w' => ∃ vo, e = .returned vo ∧ TreeAt w' vo (numT 1 t).1 ∧ Chg w w' No := by
  obtain ⟨A, cA, rfl, hc⟩ := h.form
  refine calls_zc (n := 11) (f := 33) (fn := Try.f33) Try.func33 rfl rfl (by simp) ?_
  refine zc_seq ?_
  refine zc_region ?_
  refine zl_pureL rfl ?_
  refine zl_nil ?_
  refine zk_seq ?_
  refine zc_seq ?_
  refine zc_region ?_
  refine zl_pureL rfl ?_
  refine zl_call (by first | exact want_none | exact want_L rfl) rfl (by decide) rfl (numberR_calls (n := 1) t.size h (Chg.refl _ _) hfew (Nat.le_refl _) hs (by omega)) ?_
  rintro _ w2 ⟨vo, rfl, hT, hC2⟩
  refine ⟨_, rfl, ?_⟩
  have hT' := hT.at' hC2
  obtain ⟨A2, c2, rfl, _⟩ := hT'.form
  iterate 5 (refine zl_pureL rfl ?_)
  refine zl_nil ?_
  refine zk_seq ?_
  refine zc_seq ?_
  refine zc_region ?_
  iterate 2 (refine zl_pureL rfl ?_)
  refine zl_nil ?_
  refine zk_seq ?_
  refine zc_ret ?_
  exact zk_ret1 (.inr rfl) rfl rfl ⟨_, rfl, hT', hC2⟩
end Go.Proofs.Ytjiehalanklapaa.V
