import Derived.Test.YtbcmiijollpgeaaQ15
/- PrintSafe: what is counted, and the plain law. -/
namespace Go.Proofs.Ytbcmiijollpgeaa.T
open Go Go.Z Go.Proofs
set_option linter.unusedVariables false
def AT.tagsN : AT → Nat
  | .nil => 0
  | .cons x k r => (if x.name = [] then 0 else if x.name = nBr ∨ x.name = nHr ∨ x.name = nImg then 1 else 2 + k.tagsN) + r.tagsN
theorem AT.tags_le : ∀ t : AT, t.tagsN ≤ 2 * t.size
  | .nil => Nat.le_refl _
  | .cons x k r => by
    have h1 := AT.tags_le k; have h2 := AT.tags_le r
    simp only [AT.tagsN, AT.size]
    split
    · omega
    · split <;> omega
theorem AT.drop_tags : ∀ (t : AT) (i : Nat) (x : Hd) (k r : AT), t.dropN i = .cons x k r → (t.dropN i).tagsN = (if x.name = [] then 0 else if x.name = nBr ∨ x.name = nHr ∨ x.name = nImg then 1 else 2 + k.tagsN) + (t.dropN (i + 1)).tagsN := fun t i x k r he => by
  rw [t.drop_succ i x k r he, he]; rfl
set_option maxRecDepth 100000 in
set_option maxHeartbeats 8000000 in
theorem tags_calls : ∀ (n : Nat) {w : World} {v : Value} (t : AT), t.size = n → n ≤ big → TreeAt false w v t → Calls Try.prog 16 [v].toArray w fun e w' => e = .returned (.int .i64 t.tagsN) ∧ w' = w := by
  have hbig : big = 1000000000000 := rfl
  intro n
  induction n using Nat.strongRecOn with
  | _ n ih =>
  intro w v t hs hn h
  obtain ⟨A, c, rfl, hc⟩ := h.form
  have hls := t.len_size
  have htl := t.tags_le
  refine calls_zc (n := 34) (f := 16) (fn := Try.f16) Try.func16 rfl rfl (by simp) ?_
  refine zc_seq ?_
  refine zc_region ?_
  refine zl_pureL rfl ?_
  refine zl_nil ?_
  refine zk_seq ?_
  refine zc_seq ?_
  refine zc_region ?_
  refine zl_pureL rfl ?_
  refine zl_nil ?_
  refine zk_seq ?_
  iterate 2 (refine zc_seq ?_)
  refine zc_region ?_
  refine zl_pureL rfl ?_
  refine zl_nil ?_
  refine zk_seq ?_
  refine zc_block ?_
  refine zc_loopW (ι := Nat × Nat) (fun q u => [(0, .slice A t.len c), (3, .int .i64 (q.2 : Nat)), (4, .int .i64 (q.1 : Nat))]) (fun q u => q.1 ≤ t.len ∧ q.2 + (t.dropN q.1).tagsN = t.tagsN ∧ u = w) (fun q u => t.len - q.1) (0, 0) ⟨Nat.zero_le _, Nat.zero_add _, rfl⟩ ⟨rfl, rfl, rfl, trivial⟩ ?_
  rintro ⟨i, m⟩ u ⟨hi, hm, hu⟩
  obtain rfl := hu.symm
  dsimp only at hi hm ⊢
  by_cases hlt : i < t.len
  rotate_left
  · obtain rfl : i = t.len := by omega
    rw [t.drop_len] at hm
    have hm : m = t.tagsN := hm
    subst hm
    iterate 2 (refine zc_seq ?_)
    refine zc_region ?_
    iterate 2 (refine zl_pureL rfl ?_)
    refine z_len want_none (by decide) rfl ?_
    refine z_cmpB (r := false) want_none (by decide) rfl rfl rfl (iff_of_false Bool.false_ne_true (by omega)) ?_
    refine zl_nil ?_
    refine zk_seq ?_
    refine zc_false rfl ?_
    refine zc_exit ?_
    iterate 2 (refine zk_exit_then ?_)
    refine zk_exit_block ?_
    refine zk_seq ?_
    refine zc_seq ?_
    refine zc_region ?_
    iterate 2 (refine zl_pureL rfl ?_)
    refine zl_nil ?_
    refine zk_seq ?_
    refine zc_ret ?_
    exact zk_ret1 (.inr rfl) rfl rfl ⟨rfl, rfl⟩
  obtain ⟨b', o, c', x, k, r, A', F, K, e1, hv, hN, hA, hF, hK⟩ := h.at_ i hlt
  cases hv
  have hdt := t.drop_tags i x k r e1
  rw [hdt] at hm
  have hsz := t.drop_size i
  rw [e1] at hsz
  simp only [AT.size] at hsz
  have hkt := k.tags_le
  have c0 := hN.c0
  have c4 := hN.c4
  obtain ⟨A4, c4', rfl, _⟩ := hK.form
  iterate 2 (refine zc_seq ?_)
  refine zc_region ?_
  iterate 2 (refine zl_pureL rfl ?_)
  refine z_len want_none (by decide) rfl ?_
  refine z_cmpB (r := true) want_none (by decide) rfl rfl rfl (iff_of_true rfl (by omega)) ?_
  refine zl_nil ?_
  refine zk_seq ?_
  refine zc_true rfl ?_
  refine zc_skip ?_
  refine zk_seq ?_
  refine zc_seq ?_
  refine zc_block ?_
  refine zc_seq ?_
  refine zc_region ?_
  iterate 2 (refine zl_pureL rfl ?_)
  refine z_ia want_none (by decide) rfl rfl (by omega) (by omega) ?_
  refine z_fa want_none (by decide) rfl ?_
  refine z_load1 want_none (by decide) rfl (by assumption) ?_
  refine zl_nil ?_
  refine zk_seq ?_
  refine zc_block ?_
  refine zc_seq ?_
  refine zc_region ?_
  refine z_eqL (by first | exact want_none | exact want_L rfl) (by decide) rfl rfl (fun hc => ?_) (fun hc => ?_)
  · rw [if_pos hc] at hm
    refine zl_pureL rfl ?_
    refine zl_nil ?_
    refine zk_seq ?_
    refine zc_true rfl ?_
    refine zc_skip ?_
    iterate 2 (refine zk_norm_block ?_)
    refine zk_seq ?_
    refine zc_region ?_
    refine zl_pureL rfl ?_
    refine z_add want_none (by decide) rfl rfl (by omega) (by omega) ?_
    refine zl_pureL rfl ?_
    refine zl_nil ?_
    exact zk_loopW (i + 1, m) ⟨by dsimp only; omega, by dsimp only; omega, rfl⟩ (by dsimp only; omega) ⟨rfl, rfl, get_int rfl (by dsimp only; omega), trivial⟩
  rename_i hne
  rw [if_neg hc] at hm
  clear hne
  have hne := hc
  refine zl_pureL rfl ?_
  refine zl_nil ?_
  refine zk_seq ?_
  refine zc_false rfl ?_
  iterate 2 (refine zc_seq ?_)
  refine zc_region ?_
  refine z_eqL (by first | exact want_none | exact want_L rfl) (by decide) rfl rfl (fun hc => ?_) (fun hc => ?_)
  · rw [if_pos (.inl hc)] at hm
    refine zl_pureL rfl ?_
    refine zl_nil ?_
    refine zk_seq ?_
    refine zc_true rfl ?_
    refine zc_skip ?_
    refine zk_seq ?_
    refine zc_true rfl ?_
    refine zc_region ?_
    refine zl_pureL rfl ?_
    refine z_add want_none (by decide) rfl rfl (by omega) (by omega) ?_
    refine zl_pureL rfl ?_
    refine zl_nil ?_
    iterate 2 (refine zk_norm_block ?_)
    refine zk_seq ?_
    refine zc_region ?_
    refine zl_pureL rfl ?_
    refine z_add want_none (by decide) rfl rfl (by omega) (by omega) ?_
    refine zl_pureL rfl ?_
    refine zl_nil ?_
    exact zk_loopW (i + 1, m + 1) ⟨by dsimp only; omega, by dsimp only; omega, rfl⟩ (by dsimp only; omega) ⟨rfl, get_int rfl (by dsimp only; omega), get_int rfl (by dsimp only; omega), trivial⟩
  have hbr := hc
  refine zl_pureL rfl ?_
  refine zl_nil ?_
  refine zk_seq ?_
  refine zc_false rfl ?_
  refine zc_seq ?_
  refine zc_region ?_
  refine z_eqL (by first | exact want_none | exact want_L rfl) (by decide) rfl rfl (fun hc => ?_) (fun hc => ?_)
  · rw [if_pos (.inr (.inl hc))] at hm
    refine zl_pureL rfl ?_
    refine zl_nil ?_
    refine zk_seq ?_
    refine zc_true rfl ?_
    refine zc_skip ?_
    refine zk_seq ?_
    refine zc_true rfl ?_
    refine zc_region ?_
    refine zl_pureL rfl ?_
    refine z_add want_none (by decide) rfl rfl (by omega) (by omega) ?_
    refine zl_pureL rfl ?_
    refine zl_nil ?_
    iterate 2 (refine zk_norm_block ?_)
    refine zk_seq ?_
    refine zc_region ?_
    refine zl_pureL rfl ?_
    refine z_add want_none (by decide) rfl rfl (by omega) (by omega) ?_
    refine zl_pureL rfl ?_
    refine zl_nil ?_
    exact zk_loopW (i + 1, m + 1) ⟨by dsimp only; omega, by dsimp only; omega, rfl⟩ (by dsimp only; omega) ⟨rfl, get_int rfl (by dsimp only; omega), get_int rfl (by dsimp only; omega), trivial⟩
  have hhr := hc
  refine zl_pureL rfl ?_
  refine zl_nil ?_
  refine zk_seq ?_
  refine zc_false rfl ?_
  refine zc_region ?_
  refine z_eqL (by first | exact want_none | exact want_L rfl) (by decide) rfl rfl (fun hc => ?_) (fun hc => ?_)
  · rw [if_pos (.inr (.inr hc))] at hm
    refine zl_pureL rfl ?_
    refine zl_nil ?_
    refine zk_seq ?_
    refine zc_true rfl ?_
    refine zc_region ?_
    refine zl_pureL rfl ?_
    refine z_add want_none (by decide) rfl rfl (by omega) (by omega) ?_
    refine zl_pureL rfl ?_
    refine zl_nil ?_
    iterate 2 (refine zk_norm_block ?_)
    refine zk_seq ?_
    refine zc_region ?_
    refine zl_pureL rfl ?_
    refine z_add want_none (by decide) rfl rfl (by omega) (by omega) ?_
    refine zl_pureL rfl ?_
    refine zl_nil ?_
    exact zk_loopW (i + 1, m + 1) ⟨by dsimp only; omega, by dsimp only; omega, rfl⟩ (by dsimp only; omega) ⟨rfl, get_int rfl (by dsimp only; omega), get_int rfl (by dsimp only; omega), trivial⟩
  rw [if_neg (fun h => h.elim hbr (fun h => h.elim hhr hc))] at hm
  refine zl_pureL rfl ?_
  refine zl_nil ?_
  refine zk_seq ?_
  refine zc_false rfl ?_
  refine zc_region ?_
  refine zl_pureL rfl ?_
  refine z_add want_none (by decide) rfl rfl (by omega) (by omega) ?_
  iterate 2 (refine zl_pureL rfl ?_)
  refine z_ia want_none (by decide) rfl rfl (by omega) (by omega) ?_
  refine z_fa want_none (by decide) rfl ?_
  refine z_load1 want_none (by decide) rfl (by assumption) ?_
  refine zl_call (by first | exact want_none | exact want_L rfl) rfl (by decide) rfl (ih k.size (by omega) k rfl (by omega) hK) ?_
  rintro _ u2 ⟨rfl, hu2⟩
  obtain rfl := hu2.symm
  refine ⟨_, rfl, ?_⟩
  refine z_add want_none (by decide) rfl rfl (by omega) (by omega) ?_
  refine zl_pureL rfl ?_
  refine zl_nil ?_
  iterate 2 (refine zk_norm_block ?_)
  refine zk_seq ?_
  refine zc_region ?_
  refine zl_pureL rfl ?_
  refine z_add want_none (by decide) rfl rfl (by omega) (by omega) ?_
  refine zl_pureL rfl ?_
  refine zl_nil ?_
  exact zk_loopW (i + 1, m + (2 + k.tagsN)) ⟨by dsimp only; omega, by dsimp only; omega, rfl⟩ (by dsimp only; omega) ⟨rfl, get_int rfl (by dsimp only; omega), get_int rfl (by dsimp only; omega), trivial⟩
/-! the plain law -/
structure Safe (l : List UInt8) (c : Nat) : Prop where
  cnt : l.count 60 = c
  cr : 13 ∉ l
  wh : W.whole l = true
theorem Safe.app {a b : List UInt8} {c d : Nat} (h : Safe a c) (k : Safe b d) : Safe (a ++ b) (c + d) :=
  ⟨by rw [List.count_append, h.cnt, k.cnt], fun hm => (List.mem_append.1 hm).elim h.cr k.cr, W.whole_both h.wh k.wh⟩
theorem Safe.nil : Safe [] 0 := ⟨rfl, by simp, rfl⟩
theorem safe_dec {l : List UInt8} {c : Nat} (h : (decide (l.count 60 = c) && decide (13 ∉ l) && W.whole l) = true) : Safe l c := by
  simp only [Bool.and_eq_true, decide_eq_true_eq] at h
  exact ⟨h.1.1, h.1.2, h.2⟩
theorem safe_tx : ∀ x ∈ lTxs, (decide ((safeN false x).count 60 = 0) && decide (13 ∉ safeN false x) && W.whole (safeN false x)) = true := by decide +kernel
theorem safe_val : ∀ x ∈ lVal, (decide ((safeN true x).count 60 = 0) && decide (13 ∉ safeN true x) && W.whole (safeN true x)) = true := by decide +kernel
theorem safe_nm : ∀ x ∈ lNm, (decide (x.count 60 = 0) && decide (13 ∉ x) && W.whole x) = true := by decide +kernel
theorem safe_key : ∀ x ∈ lKey, (decide (x.count 60 = 0) && decide (13 ∉ x) && W.whole x) = true := by decide +kernel
theorem safe_attrs : ∀ l : List At, (∀ a ∈ l, a.1 ∈ lKey ∧ a.2 ∈ lVal) → Safe (attrsS l) 0
  | [], _ => Safe.nil
  | a :: r, h => by
    obtain ⟨h1, h2⟩ := h a (List.mem_cons_self ..)
    have h3 := safe_attrs r (fun x hx => h x (List.mem_cons_of_mem _ hx))
    show Safe ([32] ++ a.1 ++ [61, 34] ++ safeN true a.2 ++ [34] ++ attrsS r) 0
    exact (((((safe_dec (c := 0) (by decide)).app (safe_dec (safe_key _ h1))).app (safe_dec (c := 0) (by decide))).app (safe_dec (safe_val _ h2))).app (safe_dec (c := 0) (by decide))).app h3
theorem safe_text : ∀ t : AT, t.ok → Safe t.text t.tagsN
  | .nil, _ => Safe.nil
  | .cons x k r, h => by
    obtain ⟨hx, hk, hr⟩ := h
    have h1 := safe_text k hk
    have h2 := safe_text r hr
    have hn := safe_dec (safe_nm _ hx.1)
    have ha := safe_attrs _ hx.2.2.1
    simp only [AT.text, AT.tagsN]
    refine Safe.app ?_ h2
    have ho : Safe (openS x.name x.attrs) 1 := by
      show Safe ([60] ++ x.name ++ attrsS x.attrs ++ [62]) 1
      exact (((safe_dec (c := 1) (by decide)).app hn).app ha).app (safe_dec (c := 0) (by decide))
    by_cases h0 : x.name = []
    · rw [if_pos h0, if_pos h0]
      exact safe_dec (safe_tx _ hx.2.2.2)
    · rw [if_neg h0, if_neg h0]
      by_cases hb : x.name = nBr ∨ x.name = nHr ∨ x.name = nImg
      · rw [if_pos hb, if_pos hb]
        exact ho.app Safe.nil
      · rw [if_neg hb, if_neg hb]
        have hf : Safe (if x.name = nPre ∧ k.feeds = true then [10] else []) 0 := by
          split
          · exact safe_dec (by decide)
          · exact Safe.nil
        have := ho.app ((((hf.app h1).app (safe_dec (l := [60, 47]) (c := 1) (by decide))).app hn).app (safe_dec (l := [62]) (c := 0) (by decide)))
        rw [show 1 + (0 + k.tagsN + 1 + 0 + 0) = 2 + k.tagsN by omega] at this
        exact this
theorem first_named {t : AT} (hp : 0 < t.len) (h : ∀ x k r, t.dropN 0 = .cons x k r → x.name ≠ []) : beginsN t.text [60] = true := by
  cases t with
  | nil => simp [AT.len] at hp
  | cons x k r =>
    have := h x k r rfl
    unfold beginsN
    simp only [AT.text, if_neg this]
    simp [openS]
end Go.Proofs.Ytbcmiijollpgeaa.T
