import Derived.Test.YteeibieaapiomaaDDoc
/- A Doc that is written: one node at a time; what stays true of its nodes. -/
namespace Go.Proofs.Yteeibieaapiomaa.D
open Go Go.Z Go.Proofs
set_option linter.unusedVariables false
theorem getD_set {α : Type} (l : List α) (i j : Nat) (x d : α) (hi : i < l.length) : (l.set i x).getD j d = if j = i then x else l.getD j d := by
  rw [List.getD_eq_getElem?_getD, List.getElem?_set]
  by_cases h : i = j
  · subst h; simp [hi]
  · rw [if_neg h, if_neg (fun h' => h h'.symm), List.getD_eq_getElem?_getD]
structure WrD (w w' : World) (p : Nat) (vl : Value) (Q : List PN) (vl' : Value) (Q' : List PN) : Prop where
  chg : Chg w w' (foot p vl Q)
  ft : ∀ k, foot p vl' Q' k → foot p vl Q k ∨ w.heap.size ≤ k
  k45 : ∀ b cells, Blk w b 89 cells → Blk w' b 89 cells
section
variable {w w' w1 w2 : World} {p : Nat} {vl vl1 vl2 : Value} {Q Q1 Q2 : List PN} {N : List ND} {S : Nat → Prop}
theorem WrD.refl (w : World) (p : Nat) (vl : Value) (Q : List PN) : WrD w w p vl Q vl Q := ⟨Chg.refl _ _, fun _ h => .inl h, fun _ _ h => h⟩
theorem WrD.trans (h : WrD w w1 p vl Q vl1 Q1) (k : WrD w1 w2 p vl1 Q1 vl2 Q2) : WrD w w2 p vl Q vl2 Q2 := by
  refine ⟨h.chg.trans k.chg (fun i hi hf => ?_), fun i hf => ?_, fun b c hb => k.k45 b c (h.k45 b c hb)⟩
  · rcases h.ft i hf with h1 | h1
    · exact h1
    · omega
  · rcases k.ft i hf with h1 | h1
    · exact h.ft i h1
    · exact .inr (Nat.le_trans h.chg.size h1)
theorem WrD.of_no (hc : Chg w w' No) (p : Nat) (vl : Value) (Q : List PN) : WrD w w' p vl Q vl Q := ⟨hc.mono (fun _ _ h => h.elim), fun _ h => .inl h, fun _ _ h => h.no hc⟩
theorem WrD.no (h : WrD w w1 p vl Q vl1 Q1) (hc : Chg w1 w2 No) : WrD w w2 p vl Q vl1 Q1 := h.trans (WrD.of_no hc _ _ _)
theorem WrD.pre (hc : Chg w w1 No) (h : WrD w1 w2 p vl Q vl1 Q1) : WrD w w2 p vl Q vl1 Q1 := (WrD.of_no hc _ _ _).trans h
theorem NodeAt.no45 {q : PN} {x : ND} (h : NodeAt w q x) {k : Nat} (hk : nf q k) {cells : List Value} (hb : Blk w k 89 cells) : False := by
  rcases hk with rfl | hk | hk
  · exact absurd (h.1.inj hb).1 (by decide)
  · exact h.2.2.1.ne hk hb (by decide) rfl
  · exact h.2.2.2.ne hk hb (by decide) rfl
theorem NodeAt.ne {q : PN} {x : ND} (h : NodeAt w q x) {k b t : Nat} {cells : List Value} (hk : nf q k) (hb : Blk w b t cells) (h1 : t ≠ 80) (h2 : t ≠ 5) (h3 : t ≠ 3) : k ≠ b := by
  rintro rfl
  rcases hk with rfl | hk | hk
  · exact h1 (h.1.inj hb).1.symm
  · exact h.2.2.1.ne hk hb (Ne.symm h2) rfl
  · exact h.2.2.2.ne hk hb (Ne.symm h3) rfl
theorem IsD.set (h : IsD w p vl Q N) (i : Nat) (hi : i < N.length) {q' : PN} {x' : ND} (hc : Chg w w' S) (hS : ∀ k, S k → nf (Q.getD i q0) k) (hn : NodeAt w' q' x') (hqb : q'.b = (Q.getD i q0).b) (hq : ∀ k, nf q' k → nf (Q.getD i q0) k ∨ w.heap.size ≤ k) :
    IsD w' p vl (Q.set i q') (N.set i x') ∧ WrD w w' p vl Q vl (Q.set i q') := by
  have hQ : i < Q.length := by rw [h.len]; exact hi
  have hni := h.at_ i hi
  have hSi : ∀ k, foot p vl Q k → S k → nf (Q.getD i q0) k := fun k _ hs => hS k hs
  have hSp : ¬ S p := fun hs => hni.ne (hS _ hs) h.blk (by decide) (by decide) (by decide) rfl
  have hSv : ∀ k, vl.ownBlock = some k → ¬ S k := fun k hk hs => by
    obtain ⟨cells, hb⟩ := h.row.blk hk
    exact hni.ne (hS _ hs) hb (by decide) (by decide) (by decide) rfl
  have h45 : ∀ b cells, Blk w b 89 cells → ¬ S b := fun b cells hb hs => hni.no45 (hS _ hs) hb
  refine ⟨⟨h.blk.chg hc hSp, ?_, by simp [h.len], fun j hj => ?_, fun j m hj hm hne k hk hk' => ?_⟩, ⟨hc.mono (fun k _ hs => .inr (.inr ⟨i, hQ, hS k hs⟩)), ?_, fun b cells hb => hb.chg hc (h45 b cells hb)⟩⟩
  · have e : ptrC (Q.set i q') = ptrC Q := by
      unfold ptrC
      rw [List.map_set, hqb]
      apply List.ext_getElem?
      intro j
      rw [List.getElem?_set]
      by_cases hj : i = j
      · subst hj
        simp [hQ, List.getD_eq_getElem?_getD]
      · rw [if_neg hj]
    rw [e, List.length_set]
    exact h.row.chg hc hSv
  · rw [List.length_set] at hj
    rw [getD_set _ _ _ _ _ hQ, getD_set _ _ _ _ _ hi]
    by_cases hji : j = i
    · rw [if_pos hji, if_pos hji]; exact hn
    · rw [if_neg hji, if_neg hji]
      exact (h.at_ j hj).chg hc (fun k hk hs => h.ap j i hj hi hji k hk (hS k hs)) h45
  · rw [List.length_set] at hj hm
    rw [getD_set _ _ _ _ _ hQ] at hk hk'
    by_cases hji : j = i
    · rw [if_pos hji] at hk
      have hmi : m ≠ i := fun h' => hne (hji.trans h'.symm)
      rw [if_neg hmi] at hk'
      rcases hq k hk with h1 | h1
      · exact h.ap i m hi hm (fun h' => hmi h'.symm) k h1 hk'
      · have := h.lt k (.inr (.inr ⟨m, by rw [h.len]; exact hm, hk'⟩)); omega
    · rw [if_neg hji] at hk
      by_cases hmi : m = i
      · rw [if_pos hmi] at hk'
        rcases hq k hk' with h1 | h1
        · exact h.ap j i hj hi hji k hk h1
        · have := h.lt k (.inr (.inr ⟨j, by rw [h.len]; exact hj, hk⟩)); omega
      · rw [if_neg hmi] at hk'
        exact h.ap j m hj hm hne k hk hk'
  · rintro k (hk | hk | ⟨j, hj, hk⟩)
    · exact .inl (.inl hk)
    · exact .inl (.inr (.inl hk))
    · rw [List.length_set] at hj
      rw [getD_set _ _ _ _ _ hQ] at hk
      by_cases hji : j = i
      · rw [if_pos hji] at hk
        rcases hq k hk with h1 | h1
        · exact .inl (.inr (.inr ⟨i, hQ, h1⟩))
        · exact .inr h1
      · rw [if_neg hji] at hk
        exact .inl (.inr (.inr ⟨j, hj, hk⟩))
end
/-! what stays true of nodes -/
structure WF (N : List ND) : Prop where
  pos : 0 < N.length
  root : (N.getD 0 n0).up = -1
  rootk : (N.getD 0 n0).kind = 1
  up : ∀ i, i < N.length → -1 ≤ (N.getD i n0).up ∧ (N.getD i n0).up < N.length
  kid : ∀ i k, i < N.length → (k ∈ (N.getD i n0).kids ↔ k < N.length ∧ (N.getD k n0).up = i)
  nodup : ∀ i, i < N.length → (N.getD i n0).kids.Nodup
  rank : ∃ d : Nat → Nat, ∀ i, i < N.length → ∀ j : Nat, (N.getD i n0).up = j → d j < d i
inductive Anc (N : List ND) : Nat → Nat → Prop
  | refl (n : Nat) : Anc N n n
  | step (n m top : Nat) : (N.getD n n0).up = (m : Nat) → Anc N m top → Anc N n top
theorem Anc.kid {N : List ND} (h : WF N) {n top : Nat} (ha : Anc N n top) (hn : n < N.length) : n = top ∨ ∃ k, k ∈ (N.getD top n0).kids := by
  induction ha with
  | refl n => exact .inl rfl
  | step n m top hu ha ih =>
    have hm : m < N.length := by have := (h.up n hn).2; omega
    rcases ih hm with rfl | h1
    · exact .inr ⟨n, (h.kid m n hm).2 ⟨hn, hu⟩⟩
    · exact .inr h1
def findK (K : List Nat) (a : Nat) : Nat → Option Nat
  | 0 => none
  | n + 1 => if K.getD n 0 = a then some n else findK K a n
/-- where a kid stands, or the end -/
def placeN (K : List Nat) (ahead : Int) : Option Nat := if ahead = -1 then some K.length else if 0 ≤ ahead then findK K ahead.toNat K.length else none
theorem findK_none {K : List Nat} {a : Nat} (h : a ∉ K) : ∀ n, n ≤ K.length → findK K a n = none
  | 0, _ => rfl
  | n + 1, hn => by
    unfold findK
    rw [if_neg, findK_none h n (by omega)]
    intro he
    apply h
    rw [← he, List.getD_eq_getElem?_getD, List.getElem?_eq_getElem (by omega)]
    exact List.getElem_mem _
theorem findK_some {K : List Nat} {a i : Nat} : ∀ n, findK K a n = some i → i < n ∧ K.getD i 0 = a
  | 0, h => by cases h
  | n + 1, h => by
    unfold findK at h
    split at h
    · cases h; exact ⟨by omega, by assumption⟩
    · have := findK_some n h; exact ⟨by omega, this.2⟩
def optV (r : Option Nat) : Value := .tuple #[.int .i64 ((r.getD 0 : Nat) : Int), .bool r.isSome]
set_option maxHeartbeats 4000000 in
theorem place_calls {w : World} {p : Nat} {vl : Value} {Q : List PN} {N : List ND} (h : IsD w p vl Q N) (hW : WF N) (up : Nat) (hup : up < N.length) (ahead : Int) (hk : (N.getD up n0).kids.length ≤ 100000) :
    Calls Try.prog 89 [.pointer (some ⟨p, 0, none⟩), .int .i64 up, .int .i64 ahead].toArray w fun e w' => e = .returned (optV (placeN (N.getD up n0).kids ahead)) ∧ w' = w := by
  obtain ⟨b, o, c, hv, hp⟩ := h.ptr up hup
  obtain ⟨hn, _, _, hK⟩ := h.at_ up hup
  obtain ⟨A2, c2, hv2, hc2⟩ := hK.rd.form
  rw [hv2] at hn hK
  have hb := h.blk
  rw [hv] at hb
  refine calls_zc (n := 56) (f := 89) (fn := Try.f89) Try.func89 rfl rfl (by simp) ?_
  refine zc_seq ?_
  refine zc_region ?_
  iterate 2 (refine zl_pureL rfl ?_)
  refine zl_nil ?_
  refine zk_seq ?_
  refine zc_seq ?_
  refine zc_region ?_
  iterate 2 (refine zl_pureL rfl ?_)
  refine z_fa want_none (by decide) rfl ?_
  refine z_loadB want_none (by decide) rfl (by assumption) (by rfl) ?_
  refine zl_pureL rfl ?_
  refine z_ia want_none (by decide) rfl rfl (by omega) (by omega) ?_
  refine z_load1 (by first | exact want_none | exact want_L rfl) (by decide) rfl (cell_at hp (by omega)) ?_
  by_cases h1 : ahead = -1
  · subst h1
    refine zl_pureL rfl ?_
    refine z_fa want_none (by decide) rfl ?_
    refine z_loadB want_none (by decide) rfl (by assumption) (by rfl) ?_
    refine zl_pureL rfl ?_
    refine zl_nil ?_
    refine zk_seq ?_
    iterate 2 (refine zc_seq ?_)
    refine zc_region ?_
    refine zl_pureL rfl ?_
    refine z_cmpB (r := true) want_none (by decide) rfl rfl rfl (iff_of_true rfl (by omega)) ?_
    refine zl_nil ?_
    refine zk_seq ?_
    refine zc_true rfl ?_
    refine zc_seq ?_
    refine zc_region ?_
    refine zl_pureL rfl ?_
    refine z_len want_none (by decide) rfl ?_
    iterate 2 (refine zl_pureL rfl ?_)
    refine zl_nil ?_
    refine zk_seq ?_
    refine zc_ret ?_
    refine zk_ret_then ?_
    exact zk_ret2 (.inr rfl) rfl rfl rfl ⟨by unfold placeN; rw [if_pos rfl]; rfl, rfl⟩
  · refine zl_pureL rfl ?_
    refine z_fa want_none (by decide) rfl ?_
    refine z_loadB want_none (by decide) rfl (by assumption) (by rfl) ?_
    refine zl_pureL rfl ?_
    refine zl_nil ?_
    refine zk_seq ?_
    iterate 2 (refine zc_seq ?_)
    refine zc_region ?_
    refine zl_pureL rfl ?_
    refine z_cmpB (r := false) want_none (by decide) rfl rfl rfl (iff_of_false Bool.false_ne_true (by omega)) ?_
    refine zl_nil ?_
    refine zk_seq ?_
    refine zc_false rfl ?_
    refine zc_skip ?_
    refine zk_seq ?_
    iterate 2 (refine zc_seq ?_)
    refine zc_region ?_
    iterate 2 (refine zl_pureL rfl ?_)
    refine zl_call (by first | exact want_none | exact want_L rfl) rfl (by decide) rfl (is_calls h ahead) ?_
    rintro _ u ⟨rfl, hu⟩
    obtain rfl := hu.symm
    refine ⟨_, rfl, ?_⟩
    have hnone : (¬ (isN N ahead ∧ (ndOf N ahead).up = up)) → placeN (N.getD up n0).kids ahead = none := fun hh => by
      unfold placeN
      rw [if_neg h1]
      split
      · rename_i h0
        refine findK_none (fun hm => ?_) _ (Nat.le_refl _)
        have := (hW.kid up _ hup).1 hm
        exact hh ⟨⟨h0, by have := this.1; omega⟩, this.2⟩
      · rfl
    by_cases h0 : isN N ahead
    · rw [decide_eq_true h0]
      obtain ⟨a, rfl⟩ := Int.eq_ofNat_of_zero_le h0.1
      have ha : a < N.length := by have := h0.2; omega
      obtain ⟨b', o', c', hv', hp'⟩ := h.ptr a ha
      rw [hv] at hv'
      cases hv'
      have hna := (h.at_ a ha).1
      iterate 4 (refine zl_pureL rfl ?_)
      refine z_fa (want_L rfl) (by decide) rfl ?_
      refine z_loadB (want_L rfl) (by decide) rfl (by assumption) (by rfl) ?_
      refine zl_pureL rfl ?_
      refine z_ia (want_L rfl) (by decide) rfl rfl (by omega) (by omega) ?_
      refine z_load1 (by first | exact want_none | exact want_L rfl) (by decide) rfl (cell_at hp' (by omega)) ?_
      by_cases hu : (N.getD a n0).up = up
      · have hpl : placeN (N.getD up n0).kids (a : Nat) = findK (N.getD up n0).kids a (N.getD up n0).kids.length := by
          unfold placeN
          rw [if_neg h1, if_pos (by omega)]; rfl
        refine zl_pureL rfl ?_
        refine z_fa (want_L rfl) (by decide) rfl ?_
        refine z_loadB (want_L rfl) (by decide) rfl (by assumption) (by rfl) ?_
        refine zl_pureL rfl ?_
        refine z_cmpB (r := false) (want_L rfl) (by decide) rfl rfl rfl (iff_of_false Bool.false_ne_true (by omega)) ?_
        refine zl_pureL rfl ?_
        refine zl_nil ?_
        refine zk_seq ?_
        refine zc_false rfl ?_
        refine zc_skip ?_
        refine zk_seq ?_
        iterate 2 (refine zc_seq ?_)
        refine zc_region ?_
        refine zl_pureL rfl ?_
        refine z_len want_none (by decide) rfl ?_
        refine z_sub want_none (by decide) rfl rfl (by omega) (by omega) ?_
        refine zl_pureL rfl ?_
        refine zl_nil ?_
        refine zk_seq ?_
        refine zc_block ?_
        refine zc_loop (ι := Nat) (fun k => [(2, .int .i64 a), (8, .slice A2 (N.getD up n0).kids.length c2), (9, .int .i64 ((k : Int) - 1))]) (fun _ => w) (fun k => k ≤ (N.getD up n0).kids.length ∧ findK (N.getD up n0).kids a k = findK (N.getD up n0).kids a (N.getD up n0).kids.length) (fun k => k) (N.getD up n0).kids.length ⟨Nat.le_refl _, rfl⟩ ?_ ?_ ?_
        · rfl
        · exact ⟨rfl, rfl, rfl, trivial⟩
        rintro k ⟨hkl, hf⟩
        cases k with
        | zero =>
          iterate 2 (refine zc_seq ?_)
          refine zc_region ?_
          refine zl_pureL rfl ?_
          refine z_cmpB (r := false) want_none (by decide) rfl rfl rfl (iff_of_false Bool.false_ne_true (by omega)) ?_
          refine zl_nil ?_
          refine zk_seq ?_
          refine zc_false rfl ?_
          refine zc_exit ?_
          iterate 2 (refine zk_exit_then ?_)
          refine zk_exit_block ?_
          refine zk_seq ?_
          refine zc_seq ?_
          refine zc_region ?_
          iterate 2 (refine zl_pureL rfl ?_)
          refine zl_nil ?_
          refine zk_seq ?_
          refine zc_ret ?_
          refine zk_ret2 (.inr rfl) rfl rfl rfl ⟨?_, rfl⟩
          rw [hpl, ← hf]; rfl
        | succ k =>
          obtain ⟨bk, ok, ck, hvk, _, hck⟩ := RdS.some hK.rd (by omega)
          cases hvk
          have hcell := hck k _ (intC_get _ k (by omega))
          iterate 2 (refine zc_seq ?_)
          refine zc_region ?_
          refine zl_pureL rfl ?_
          refine z_cmpB (r := true) want_none (by decide) rfl rfl rfl (iff_of_true rfl (by omega)) ?_
          refine zl_nil ?_
          refine zk_seq ?_
          refine zc_true rfl ?_
          refine zc_skip ?_
          refine zk_seq ?_
          refine zc_seq ?_
          refine zc_block ?_
          refine zc_seq ?_
          refine zc_region ?_
          iterate 2 (refine zl_pureL rfl ?_)
          refine z_ia want_none (by decide) rfl rfl (by omega) (by omega) ?_
          refine z_load1 (by first | exact want_none | exact want_L rfl) (by decide) rfl (cell_at hcell (by omega)) ?_
          by_cases he : (N.getD up n0).kids.getD k 0 = a
          · refine zl_pureL rfl ?_
            refine z_cmpB (r := true) want_none (by decide) rfl rfl rfl (iff_of_true rfl (by omega)) ?_
            refine zl_nil ?_
            refine zk_seq ?_
            refine zc_true rfl ?_
            refine zc_seq ?_
            refine zc_region ?_
            iterate 3 (refine zl_pureL rfl ?_)
            refine zl_nil ?_
            refine zk_seq ?_
            refine zc_ret ?_
            refine zk_ret_block ?_
            iterate 2 (refine zk_ret_then ?_)
            refine zk_ret_block ?_
            refine zk_ret_then ?_
            refine zk_ret2 (.inr rfl) rfl rfl rfl ⟨?_, rfl⟩
            rw [hpl, ← hf]
            unfold findK
            rw [if_pos he]
            unfold optV
            simp
          · refine zl_pureL rfl ?_
            refine z_cmpB (r := false) want_none (by decide) rfl rfl rfl (iff_of_false Bool.false_ne_true (by omega)) ?_
            refine zl_nil ?_
            refine zk_seq ?_
            refine zc_false rfl ?_
            refine zc_skip ?_
            refine zk_norm_block ?_
            refine zk_seq ?_
            refine zc_region ?_
            refine zl_pureL rfl ?_
            refine z_sub want_none (by decide) rfl rfl (by omega) (by omega) ?_
            refine zl_pureL rfl ?_
            refine zl_nil ?_
            refine zk_loop k ⟨by omega, ?_⟩ (by omega) rfl ⟨rfl, rfl, get_int rfl (by omega), trivial⟩
            rw [← hf]
            conv => rhs; unfold findK
            rw [if_neg he]
      · refine zl_pureL rfl ?_
        refine z_fa (want_L rfl) (by decide) rfl ?_
        refine z_loadB (want_L rfl) (by decide) rfl (by assumption) (by rfl) ?_
        refine zl_pureL rfl ?_
        refine z_cmpB (r := true) (want_L rfl) (by decide) rfl rfl rfl (iff_of_true rfl (by omega)) ?_
        refine zl_pureL rfl ?_
        refine zl_nil ?_
        refine zk_seq ?_
        refine zc_true rfl ?_
        refine zc_seq ?_
        refine zc_region ?_
        iterate 2 (refine zl_pureL rfl ?_)
        refine zl_nil ?_
        refine zk_seq ?_
        refine zc_ret ?_
        refine zk_ret_then ?_
        exact zk_ret2 (.inr rfl) rfl rfl rfl ⟨by rw [hnone (fun hh => hu hh.2)]; rfl, rfl⟩
    · rw [decide_eq_false h0]
      iterate 4 (refine zl_pureL rfl ?_)
      iterate 2 (refine zl_skip rfl ?_)
      refine zl_pureL rfl ?_
      iterate 2 (refine zl_skip rfl ?_)
      refine zl_pureL rfl ?_
      iterate 2 (refine zl_skip rfl ?_)
      refine zl_pureL rfl ?_
      refine zl_skip rfl ?_
      refine zl_pureL rfl ?_
      refine zl_nil ?_
      refine zk_seq ?_
      refine zc_true rfl ?_
      refine zc_seq ?_
      refine zc_region ?_
      iterate 2 (refine zl_pureL rfl ?_)
      refine zl_nil ?_
      refine zk_seq ?_
      refine zc_ret ?_
      refine zk_ret_then ?_
      exact zk_ret2 (.inr rfl) rfl rfl rfl ⟨by rw [hnone (fun hh => h0 hh.1)]; rfl, rfl⟩
set_option maxHeartbeats 4000000 in
theorem below_calls {w : World} {p : Nat} {vl : Value} {Q : List PN} {N : List ND} (h : IsD w p vl Q N) (hW : WF N) (n top : Nat) (hn : n < N.length) (ht : top < N.length) :
    Calls Try.prog 88 [.pointer (some ⟨p, 0, none⟩), .int .i64 n, .int .i64 top].toArray w fun e w' => ∃ q, e = .returned (.bool q) ∧ (q = true ↔ Anc N n top) ∧ w' = w := by
  obtain ⟨b, o, c, hv, hp⟩ := h.ptr top ht
  obtain ⟨hn', _, _, hK⟩ := h.at_ top ht
  obtain ⟨A2, c2, hv2, hc2⟩ := hK.rd.form
  rw [hv2] at hn' hK
  have hb := h.blk
  rw [hv] at hb
  obtain ⟨d, hd⟩ := hW.rank
  refine calls_zc (n := 37) (f := 88) (fn := Try.f88) Try.func88 rfl rfl (by simp) ?_
  refine zc_seq ?_
  refine zc_region ?_
  refine zl_pureL rfl ?_
  refine zl_nil ?_
  refine zk_seq ?_
  iterate 2 (refine zc_seq ?_)
  refine zc_region ?_
  iterate 2 (refine zl_pureL rfl ?_)
  refine z_fa want_none (by decide) rfl ?_
  refine z_loadB want_none (by decide) rfl (by assumption) (by rfl) ?_
  refine zl_pureL rfl ?_
  refine z_ia want_none (by decide) rfl rfl (by omega) (by omega) ?_
  refine z_load1 (by first | exact want_none | exact want_L rfl) (by decide) rfl (cell_at hp (by omega)) ?_
  by_cases hkl : (N.getD top n0).kids.length = 0
  · refine zl_pureL rfl ?_
    refine z_fa want_none (by decide) rfl ?_
    refine z_loadB want_none (by decide) rfl (by assumption) (by rfl) ?_
    refine z_len want_none (by decide) rfl ?_
    refine z_cmpB (r := true) want_none (by decide) rfl rfl rfl (iff_of_true rfl (by omega)) ?_
    refine zl_nil ?_
    refine zk_seq ?_
    refine zc_true rfl ?_
    refine zc_seq ?_
    refine zc_region ?_
    iterate 2 (refine zl_pureL rfl ?_)
    refine z_cmpB (r := decide (n = top)) (by first | exact want_none | exact want_L rfl) (by decide) rfl rfl rfl (by simp <;> omega) ?_
    refine zl_pureL rfl ?_
    refine zl_nil ?_
    refine zk_seq ?_
    refine zc_ret ?_
    refine zk_ret_then ?_
    refine zk_ret1 (.inr rfl) rfl rfl ⟨_, rfl, ?_, rfl⟩
    rw [decide_eq_true_eq]
    refine ⟨fun he => he ▸ Anc.refl n, fun ha => ?_⟩
    rcases ha.kid hW hn with h1 | ⟨k, hk⟩
    · exact h1
    · rw [List.eq_nil_of_length_eq_zero hkl] at hk; cases hk
  · refine zl_pureL rfl ?_
    refine z_fa want_none (by decide) rfl ?_
    refine z_loadB want_none (by decide) rfl (by assumption) (by rfl) ?_
    refine z_len want_none (by decide) rfl ?_
    refine z_cmpB (r := false) want_none (by decide) rfl rfl rfl (iff_of_false Bool.false_ne_true (by omega)) ?_
    refine zl_nil ?_
    refine zk_seq ?_
    refine zc_false rfl ?_
    refine zc_skip ?_
    refine zk_seq ?_
    refine zc_seq ?_
    refine zc_block ?_
    refine zc_loop (ι := Int) (fun k => [(0, .pointer (some ⟨p, 0, none⟩)), (1, .int .i64 k), (2, .int .i64 top)]) (fun _ => w) (fun k => (k = -1 ∧ ¬ Anc N n top) ∨ ∃ m : Nat, k = m ∧ m < N.length ∧ (Anc N m top ↔ Anc N n top)) (fun k => if k < 0 then 0 else d k.toNat + 1) (n : Int) (.inr ⟨n, rfl, hn, Iff.rfl⟩) ?_ ?_ ?_
    · rfl
    · exact ⟨rfl, rfl, rfl, trivial⟩
    rintro k hk
    rcases hk with ⟨rfl, hna⟩ | ⟨m, rfl, hm, hiff⟩
    · iterate 2 (refine zc_seq ?_)
      refine zc_region ?_
      refine zl_pureL rfl ?_
      refine z_cmpB (r := false) want_none (by decide) rfl rfl rfl (iff_of_false Bool.false_ne_true (by omega)) ?_
      refine zl_nil ?_
      refine zk_seq ?_
      refine zc_false rfl ?_
      refine zc_exit ?_
      iterate 2 (refine zk_exit_then ?_)
      refine zk_exit_block ?_
      refine zk_seq ?_
      refine zc_seq ?_
      refine zc_region ?_
      refine zl_pureL rfl ?_
      refine zl_nil ?_
      refine zk_seq ?_
      refine zc_ret ?_
      exact zk_ret1 (.inr rfl) rfl rfl ⟨false, rfl, no_ hna, rfl⟩
    · by_cases he : m = top
      · iterate 2 (refine zc_seq ?_)
        refine zc_region ?_
        refine zl_pureL rfl ?_
        refine z_cmpB (r := true) want_none (by decide) rfl rfl rfl (iff_of_true rfl (by omega)) ?_
        refine zl_nil ?_
        refine zk_seq ?_
        refine zc_true rfl ?_
        refine zc_skip ?_
        refine zk_seq ?_
        refine zc_seq ?_
        refine zc_block ?_
        refine zc_seq ?_
        refine zc_region ?_
        iterate 2 (refine zl_pureL rfl ?_)
        refine z_cmpB (r := true) want_none (by decide) rfl rfl rfl (iff_of_true rfl (by omega)) ?_
        refine zl_nil ?_
        refine zk_seq ?_
        refine zc_true rfl ?_
        refine zc_seq ?_
        refine zc_region ?_
        refine zl_pureL rfl ?_
        refine zl_nil ?_
        refine zk_seq ?_
        refine zc_ret ?_
        refine zk_ret_block ?_
        iterate 2 (refine zk_ret_then ?_)
        refine zk_ret_block ?_
        refine zk_ret_then ?_
        exact zk_ret1 (.inr rfl) rfl rfl ⟨true, rfl, iff_of_true rfl (hiff.1 (he ▸ Anc.refl m)), rfl⟩
      · obtain ⟨b', o', c', hv', hp'⟩ := h.ptr m hm
        rw [hv] at hv'
        cases hv'
        have hnm := (h.at_ m hm).1
        obtain ⟨hu1, hu2⟩ := hW.up m hm
        iterate 2 (refine zc_seq ?_)
        refine zc_region ?_
        refine zl_pureL rfl ?_
        refine z_cmpB (r := true) want_none (by decide) rfl rfl rfl (iff_of_true rfl (by omega)) ?_
        refine zl_nil ?_
        refine zk_seq ?_
        refine zc_true rfl ?_
        refine zc_skip ?_
        refine zk_seq ?_
        refine zc_seq ?_
        refine zc_block ?_
        refine zc_seq ?_
        refine zc_region ?_
        iterate 2 (refine zl_pureL rfl ?_)
        refine z_cmpB (r := false) want_none (by decide) rfl rfl rfl (iff_of_false Bool.false_ne_true (by omega)) ?_
        refine zl_nil ?_
        refine zk_seq ?_
        refine zc_false rfl ?_
        refine zc_skip ?_
        refine zk_norm_block ?_
        refine zk_seq ?_
        refine zc_region ?_
        iterate 2 (refine zl_pureL rfl ?_)
        refine z_fa want_none (by decide) rfl ?_
        refine z_loadB want_none (by decide) rfl (by assumption) (by rfl) ?_
        refine zl_pureL rfl ?_
        refine z_ia want_none (by decide) rfl rfl (by omega) (by omega) ?_
        refine z_load1 (by first | exact want_none | exact want_L rfl) (by decide) rfl (cell_at hp' (by omega)) ?_
        refine zl_pureL rfl ?_
        refine z_fa want_none (by decide) rfl ?_
        refine z_loadB want_none (by decide) rfl (by assumption) (by rfl) ?_
        refine zl_pureL rfl ?_
        refine zl_nil ?_
        by_cases hneg : (N.getD m n0).up = -1
        · refine zk_loop _ (.inl ⟨hneg, fun ha => ?_⟩) (by rw [hneg, if_pos (by decide), if_neg (by omega)]; omega) rfl ⟨rfl, rfl, rfl, trivial⟩
          have := hiff.2 ha
          cases this with
          | refl => exact he rfl
          | step _ m' _ hu' _ => rw [hneg] at hu'; omega
        · obtain ⟨m', hm'⟩ := Int.eq_ofNat_of_zero_le (show 0 ≤ (N.getD m n0).up by omega)
          have hdm := hd m hm m' hm'
          refine zk_loop _ (.inr ⟨m', hm', by omega, ?_⟩) (by rw [hm']; rw [if_neg (by omega), if_neg (by omega)]; simp only [Int.toNat_natCast]; omega) rfl ⟨rfl, rfl, rfl, trivial⟩
          rw [← hiff]
          refine ⟨fun ha => Anc.step m m' top hm' ha, fun ha => ?_⟩
          cases ha with
          | refl => exact absurd rfl he
          | step _ m'' _ hu' ha' =>
            have : m'' = m' := by rw [hm'] at hu'; omega
            subst this; exact ha'
end Go.Proofs.Yteeibieaapiomaa.D
