import Derived.Test.YteeibieaapiomaaDDoc4
/- Text written: Write. -/
namespace Go.Proofs.Yteeibieaapiomaa.D
open Go Go.Z Go.Proofs
set_option linter.unusedVariables false
def WriteOk (N : List ND) (up ahead : Int) : Prop := isN N up ∧ (ndOf N up).kind = 1 ∧ (placeN (ndOf N up).kids ahead).isSome = true
def lastK (N : List ND) (up a : Nat) : Nat := (N.getD up n0).kids.getD (a - 1) 0
def textN (s : List UInt8) : ND := ⟨2, 0, ⟨#[]⟩, [], s, -1, []⟩
def writeN (N : List ND) (s : List UInt8) (up a : Nat) : List ND :=
  if s = [] then N else if 0 < a ∧ (N.getD (lastK N up a) n0).kind = 2 then N.set (lastK N up a) { N.getD (lastK N up a) n0 with text := (N.getD (lastK N up a) n0).text ++ s }
  else layN (N ++ [textN s]) N.length up a
def WriteR (N : List ND) (s : List UInt8) (up ahead : Int) (q : Bool) (N' : List ND) : Prop := (WriteOk N up ahead → q = true ∧ N' = writeN N s up.toNat ((placeN (ndOf N up).kids ahead).getD 0)) ∧ (¬ WriteOk N up ahead → q = false ∧ N' = N)
theorem WriteR.det {N N1 N2 : List ND} {s : List UInt8} {up ahead : Int} {q1 q2 : Bool} (h1 : WriteR N s up ahead q1 N1) (h2 : WriteR N s up ahead q2 N2) : q1 = q2 ∧ N1 = N2 := by
  by_cases h : WriteOk N up ahead
  · obtain ⟨a, b⟩ := h1.1 h; obtain ⟨c, d⟩ := h2.1 h; exact ⟨a.trans c.symm, b.trans d.symm⟩
  · obtain ⟨a, b⟩ := h1.2 h; obtain ⟨c, d⟩ := h2.2 h; exact ⟨a.trans c.symm, b.trans d.symm⟩
theorem Anc.fresh {N : List ND} (h : WF N) {n top : Nat} (hn : n < N.length) (hk : (N.getD top n0).kids = []) (ha : Anc N n top) : n = top := by
  rcases ha.kid h hn with h1 | ⟨k, h1⟩
  · exact h1
  · rw [hk] at h1; cases h1
theorem getD_mem {α : Type} {d : α} {l : List α} {k : Nat} (h : k < l.length) : l.getD k d ∈ l := by
  rw [List.getD_eq_getElem?_getD, List.getElem?_eq_getElem h]; exact List.getElem_mem h
theorem lastK_lt {N : List ND} (h : WF N) {up a : Nat} (hu : up < N.length) (ha : 0 < a) (hal : a ≤ (N.getD up n0).kids.length) : lastK N up a < N.length := by
  refine ((h.kid up _ hu).1 ?_).1
  exact getD_mem (by omega)
theorem writeN_wf {N : List ND} (h : WF N) (s : List UInt8) {up a : Nat} (hu : up < N.length) (hal : a ≤ (N.getD up n0).kids.length) : WF (writeN N s up a) ∧ (writeN N s up a).length ≤ N.length + 1 := by
  unfold writeN
  split
  · exact ⟨h, by omega⟩
  · split
    · rename_i hc
      have hlt := lastK_lt h hu hc.1 hal
      refine ⟨h.congr (by simp) (fun i => ?_) (fun i => ?_) ?_, by simp⟩
      · rw [getD_set _ _ _ _ _ hlt]; split
        · rename_i h1; rw [h1]
        · rfl
      · rw [getD_set _ _ _ _ _ hlt]; split
        · rename_i h1; rw [h1]
        · rfl
      · rw [getD_set _ _ _ _ _ hlt]; split
        · rename_i h1; rw [h1]
        · rfl
    · have h1 := h.add (x := textN s) rfl rfl
      refine ⟨h1.lay a (by simp) (by simp; omega) (by rw [getD_add, if_pos rfl]; rfl) (fun ha => ?_) (by have := h.pos; omega), by rw [layN_len]; simp⟩
      have := Anc.fresh h1 (by simp; omega) (by rw [getD_add, if_pos rfl]; rfl) ha
      omega
theorem WriteR.wf {N N' : List ND} {s : List UInt8} {up ahead : Int} {q : Bool} (h : WriteR N s up ahead q N') (hW : WF N) : WF N' ∧ N'.length ≤ N.length + 1 := by
  by_cases ho : WriteOk N up ahead
  · rw [(h.1 ho).2]
    obtain ⟨h1, h2, h3⟩ := ho
    obtain ⟨a, ha⟩ := Option.isSome_iff_exists.1 h3
    rw [ha]
    have := h1.1; have := h1.2
    exact writeN_wf hW s (by omega) (placeN_le ha)
  · rw [(h.2 ho).2]; exact ⟨hW, by omega⟩
theorem NodeAt.blkS {w : World} {q : PN} {x : ND} (h : NodeAt w q x) : Blk w q.b 80 [.int .i64 x.kind, .int .i64 x.space, .string x.name, q.va, q.vt, .int .i64 x.up, q.vk] := h.1
set_option maxHeartbeats 8000000 in
theorem write_calls {w : World} {p : Nat} {vl : Value} {Q : List PN} {N : List ND} (h : IsD w p vl Q N) (hW : WF N) (hl : N.length ≤ 100000) (s : List UInt8) (hs : s.length ≤ 100000) (ht : ∀ i, (N.getD i n0).text.length ≤ 1000000000) (up ahead : Int) :
    Calls Try.prog 80 [.pointer (some ⟨p, 0, none⟩), .string (bs s), .int .i64 up, .int .i64 ahead].toArray w fun e w' => ∃ q vl' Q' N', e = .returned (.bool q) ∧ IsD w' p vl' Q' N' ∧ WrD w w' p vl Q vl' Q' ∧ WriteR N s up ahead q N' := by
  have bad : ¬ WriteOk N up ahead → ∃ q vl' Q' N', (Ending.returned (.bool false)) = .returned (.bool q) ∧ IsD w p vl' Q' N' ∧ WrD w w p vl Q vl' Q' ∧ WriteR N s up ahead q N' := fun hn => ⟨false, vl, Q, N, rfl, h, WrD.refl _ _ _ _, fun hh => absurd hh hn, fun _ => ⟨rfl, rfl⟩⟩
  refine calls_zc (n := 76) (f := 80) (fn := Try.f80) Try.func80 rfl rfl (by simp) ?_
  refine zc_seq ?_
  refine zc_region ?_
  refine zl_pureL rfl ?_
  refine zl_nil ?_
  refine zk_seq ?_
  iterate 2 (refine zc_seq ?_)
  refine zc_region ?_
  iterate 2 (refine zl_pureL rfl ?_)
  refine zl_call (by first | exact want_none | exact want_L rfl) rfl (by decide) rfl (elem_calls h up) ?_
  rintro _ u ⟨rfl, hu⟩
  obtain rfl := hu.symm
  refine ⟨_, rfl, ?_⟩
  by_cases h2 : isN N up ∧ (ndOf N up).kind = 1
  · rw [decide_eq_true h2]
    obtain ⟨j, rfl⟩ := Int.eq_ofNat_of_zero_le h2.1.1
    have hj : j < N.length := by have := h2.1.2; omega
    have hkj := hW.kids_len hj
    refine zl_pureL rfl ?_
    refine zl_nil ?_
    refine zk_seq ?_
    refine zc_false rfl ?_
    refine zc_skip ?_
    refine zk_seq ?_
    refine zc_seq ?_
    refine zc_region ?_
    iterate 3 (refine zl_pureL rfl ?_)
    refine zl_call (by first | exact want_none | exact want_L rfl) rfl (by decide) rfl (place_calls h hW j hj ahead (by omega)) ?_
    rintro _ u ⟨rfl, hu⟩
    obtain rfl := hu.symm
    refine ⟨_, rfl, ?_⟩
    cases hpl : placeN (N.getD j n0).kids ahead with
    | none =>
      iterate 5 (refine zl_pureL rfl ?_)
      refine zl_nil ?_
      refine zk_seq ?_
      iterate 2 (refine zc_seq ?_)
      refine zc_region ?_
      iterate 4 (refine zl_pureL rfl ?_)
      refine zl_skip rfl ?_
      refine zl_pureL rfl ?_
      refine zl_nil ?_
      refine zk_seq ?_
      refine zc_true rfl ?_
      refine zc_seq ?_
      refine zc_region ?_
      iterate 2 (refine zl_pureL rfl ?_)
      refine zl_nil ?_
      refine zk_seq ?_
      refine zc_ret ?_
      refine zk_ret_then ?_
      exact zk_ret1 (.inr rfl) rfl rfl (bad (fun hh => by
        have : (placeN (N.getD j n0).kids ahead).isSome = true := hh.2.2
        rw [hpl] at this; cases this))
    | some a =>
      rw [show optV (some a) = Value.tuple #[.int .i64 ((a : Nat) : Int), .bool true] from rfl]
      have hal := placeN_le hpl
      have hok : WriteOk N j ahead := ⟨h2.1, h2.2, by show (placeN (N.getD j n0).kids ahead).isSome = true; rw [hpl]; rfl⟩
      have good : ∀ {w' vl' Q'}, IsD w' p vl' Q' (writeN N s j a) → WrD w w' p vl Q vl' Q' → ∃ q vl' Q' N', (Ending.returned (.bool true)) = .returned (.bool q) ∧ IsD w' p vl' Q' N' ∧ WrD w w' p vl Q vl' Q' ∧ WriteR N s j ahead q N' := fun h1 h2 =>
        ⟨true, _, _, _, rfl, h1, h2, fun _ => ⟨rfl, by show _ = writeN N s j ((placeN (N.getD j n0).kids ahead).getD 0); rw [hpl]; rfl⟩, fun hh => absurd hok hh⟩
      iterate 5 (refine zl_pureL rfl ?_)
      refine zl_nil ?_
      refine zk_seq ?_
      iterate 2 (refine zc_seq ?_)
      refine zc_region ?_
      iterate 4 (refine zl_pureL rfl ?_)
      refine z_eqS (by first | exact want_none | exact want_L rfl) (by decide) rfl rfl (fun hc => ?_) (fun hc => ?_)
      · have h0 : s = [] := by have : bs s = bs [] := by assumption
                               exact bs_inj.1 this
        refine zl_pureL rfl ?_
        refine zl_nil ?_
        refine zk_seq ?_
        refine zc_true rfl ?_
        refine zc_seq ?_
        refine zc_region ?_
        iterate 2 (refine zl_pureL rfl ?_)
        refine zl_nil ?_
        refine zk_seq ?_
        refine zc_ret ?_
        refine zk_ret_then ?_
        exact zk_ret1 (.inr rfl) rfl rfl (good (by unfold writeN; rw [if_pos h0]; exact h) (WrD.refl _ _ _ _))
      have h0 : ¬ s = [] := fun hh => by subst hh; exact absurd rfl (by assumption)
      have tail : ∀ (hlk : ¬ (0 < a ∧ (N.getD (lastK N j a) n0).kind = 2)), writeN N s j a = layN (N ++ [textN s]) N.length j a := fun hlk => by
        unfold writeN; rw [if_neg h0, if_neg hlk]
      have hsm : s.length ≤ maxLen := by simp [maxLen]; omega
      refine zl_pureL rfl ?_
      refine zl_nil ?_
      refine zk_seq ?_
      refine zc_false rfl ?_
      refine zc_skip ?_
      refine zk_seq ?_
      iterate 2 (refine zc_seq ?_)
      refine zc_region ?_
      refine zl_pureL rfl ?_
      refine z_cmpB (r := decide (0 < a)) (by first | exact want_none | exact want_L rfl) (by decide) rfl rfl rfl (by simp <;> omega) ?_
      refine zl_nil ?_
      refine zk_seq ?_
      refine zc_midT (fun u => u.heap.size ≥ w.heap.size ∧ Chg w u No ∧ ¬ (0 < a ∧ (N.getD (lastK N j a) n0).kind = 2)) [(0, .pointer (some ⟨p, 0, none⟩)), (1, .string (bs s)), (2, .int .i64 j), (9, .int .i64 a)] ?_ ?_
      · refine zc_cond rfl (fun hpos => ?_) (fun hz => ?_)
        · have hpos : 0 < a := of_decide_eq_true hpos
          obtain ⟨b, o, c, hv, hp⟩ := h.ptr j hj
          have hb := h.blk
          rw [hv] at hb
          obtain ⟨hn, hA, hT, hK⟩ := h.at_ j hj
          obtain ⟨A2, c2, hv2, hc2⟩ := hK.rd.form
          rw [hv2] at hn hK
          obtain ⟨bk, ok, ck, hvk, _, hck⟩ := RdS.some hK.rd (by omega)
          cases hvk
          have hcell := hck (a - 1) _ (intC_get _ (a - 1) (by omega))
          have hlk := lastK_lt hW hj hpos hal
          have hlkd : (N.getD j n0).kids.getD (a - 1) 0 = lastK N j a := rfl
          rw [hlkd] at hcell
          obtain ⟨b', o', c', hv', hp'⟩ := h.ptr (lastK N j a) hlk
          rw [hv] at hv'
          cases hv'
          have hnk := h.at_ (lastK N j a) hlk
          have hqn : ∃ qn, qn = Q.getD (lastK N j a) q0 := ⟨_, rfl⟩
          obtain ⟨⟨nb, na, nt, nk⟩, hqn⟩ := hqn
          rw [← hqn] at hnk hp'
          have hbn := hnk.1
          dsimp only at hbn hp'
          refine zc_seq ?_
          refine zc_draw [] (fun w' => Chg w w' No ∧ Blk w' p 102 [.slice (some ⟨b, o, none⟩) N.length c] ∧ Blk w' (Q.getD j q0).b 80 [.int .i64 (N.getD j n0).kind, .int .i64 (N.getD j n0).space, .string (N.getD j n0).name, (Q.getD j q0).va, (Q.getD j q0).vt, .int .i64 (N.getD j n0).up, .slice (some ⟨bk, ok, none⟩) (N.getD j n0).kids.length c2]) (.take 0 (.take 1 (.take 2 (.take 3 (.take 4 (.take 5 (.take 6 (.take 7 (.take 8 (.take 9 (.take 10 (.take 11 (.take 12 (.take 13 (.take 14 (.take 15 (.take 16 (.take 17 (.take 18 (.take 19 (.take 20 (.fin)))))))))))))))))))))) (by rfl) (by kernel_rfl) (by kernel_rfl) (fun w1 hC1 hH1 => ⟨?_, ?_⟩)
          · exact ⟨hC1, hb.no hC1, hn.no hC1⟩
          iterate 2 (refine zs_take rfl (zt_pure rfl ?_))
          refine zs_rdL rfl want_none rfl (by decide) (fun _ hS => r_fa rfl) ?_
          refine zs_rdL rfl want_none rfl (by decide) (fun _ hS => r_loadB rfl hS.2.1 (by rfl)) ?_
          iterate 2 (refine zs_take rfl (zt_pure rfl ?_))
          refine zs_rdL rfl want_none rfl (by decide) (fun _ hS => r_fa rfl) ?_
          refine zs_rdL rfl want_none rfl (by decide) (fun _ hS => r_loadB rfl hS.2.1 (by rfl)) ?_
          refine zs_take rfl (zt_pure rfl ?_)
          refine zs_rdL rfl want_none rfl (by decide) (fun _ hS => r_ia rfl rfl (by omega) (by omega)) ?_
          refine zs_rdL rfl (by first | exact want_none | exact want_L rfl) rfl (by decide) (fun _ hS => r_load1 rfl (cell_at (cell_no hS.1 hp) (by omega))) ?_
          refine zs_take rfl (zt_pure rfl ?_)
          refine zs_rdL rfl want_none rfl (by decide) (fun _ hS => r_fa rfl) ?_
          refine zs_rdL rfl want_none rfl (by decide) (fun _ hS => r_loadB rfl hS.2.2 (by rfl)) ?_
          refine zs_take rfl (zt_pure rfl ?_)
          refine zs_rdL rfl want_none rfl (by decide) (fun _ hS => r_sub rfl rfl (by omega) (by omega)) ?_
          refine zs_rdL rfl want_none rfl (by decide) (fun _ hS => r_ia rfl rfl (by omega) (by omega)) ?_
          refine zs_rdL rfl (by first | exact want_none | exact want_L rfl) rfl (by decide) (fun _ hS => r_load1 rfl (cell_at (cell_no hS.1 hcell) (by omega))) ?_
          refine zs_rdL rfl want_none rfl (by decide) (fun _ hS => r_ia rfl rfl (by omega) (by omega)) ?_
          refine zs_rdL rfl (by first | exact want_none | exact want_L rfl) rfl (by decide) (fun _ hS => r_load1 rfl (cell_at (cell_no hS.1 hp') (by omega))) ?_
          refine zs_take rfl (zt_pure rfl ?_)
          refine zs_fin ?_
          refine zk_seq ?_
          refine zc_seq ?_
          refine zc_region ?_
          iterate 2 (refine zl_pureL rfl ?_)
          refine z_fa want_none (by decide) rfl ?_
          have hbn1 := hbn.no hC1
          refine z_loadB want_none (by decide) rfl (by assumption) (by rfl) ?_
          by_cases hk2 : (N.getD (lastK N j a) n0).kind = 2
          · have hT1 : OwnB w1 5 nt _ := hnk.2.2.1.no hC1
            have htl := ht (lastK N j a)
            refine z_cmpB (r := true) want_none (by decide) rfl rfl rfl (iff_of_true rfl (by omega)) ?_
            refine zl_nil ?_
            refine zk_seq ?_
            refine zc_true rfl ?_
            refine zc_seq ?_
            refine zc_region ?_
            iterate 3 (refine zl_pureL rfl ?_)
            refine z_fa want_none (by decide) rfl ?_
            refine z_loadB want_none (by decide) rfl (by assumption) (by rfl) ?_
            refine zl_pureL rfl ?_
            refine z_appendB (by first | exact want_none | exact want_L rfl) (by decide) rfl rfl hT1 (by omega) (fun v2 w2 hO2 hC2 hr2 => ?_)
            have hbn2 := hbn1.chg hC2 (fun he => hT1.ne he hbn1 (by decide) rfl)
            obtain ⟨A3, c3, hv3, _⟩ := hO2.form
            subst hv3
            refine zl_pureL rfl ?_
            refine z_fa want_none (by decide) rfl ?_
            refine z_store (by first | exact want_none | exact want_L rfl) rfl rfl rfl (by assumption) (by first | exact Nat.le_refl _ | simp [Value.cells]) (by simp [Value.cells, Value.oneCell']) (fun w3 hU3 => ?_)
            have hO3 := hO2.chg hU3.chg (fun k hk he => hO2.ne hk hbn2 (by decide) he)
            have hnk1 := hnk.chg hC1 (fun _ _ => id) (fun _ _ _ => id)
            have hC13 : Chg w1 w3 (fun i => i = nb ∨ nt.ownBlock = some i) := (hC2.mono (fun _ _ h => .inr h)).trans hU3.chg (fun _ _ h => .inl h)
            have hdj : ∀ k, k = nb ∨ nt.ownBlock = some k → ∀ t cells, Blk w1 k t cells → t = 80 ∨ t = 5 := fun k hk t cells hb => by
              rcases hk with rfl | hk
              · exact .inl (hb.inj hbn1).1
              · by_cases h5 : t = 5
                · exact .inr h5
                · exact absurd rfl (hT1.ne hk hb (fun he => h5 he.symm))
            have hn3 : NodeAt w3 ⟨nb, na, .slice A3 ((N.getD (lastK N j a) n0).text ++ s).length c3, nk⟩ { N.getD (lastK N j a) n0 with text := (N.getD (lastK N j a) n0).text ++ s } := by
              refine ⟨hU3.blk, ?_, hO3, ?_⟩
              · refine RdS.chg hnk1.2.1 hC13 (fun b' cells hb hs => ?_)
                rcases hdj _ hs _ _ hb with h5 | h5 <;> cases h5
              · refine hnk1.2.2.2.chg hC13 (fun k hk hs => ?_)
                obtain ⟨cells, hb⟩ := hnk1.2.2.2.blk hk
                rcases hdj _ hs _ _ hb with h5 | h5 <;> cases h5
            have h1' := h.no hC1
            obtain ⟨h3, hW3⟩ := h1'.set (lastK N j a) hlk (q' := ⟨nb, na, .slice A3 ((N.getD (lastK N j a) n0).text ++ s).length c3, nk⟩) hC13 (fun k hs => by rw [← hqn]; exact hs.imp id .inl) hn3 (by rw [← hqn]) (fun k hk => by
              rw [← hqn]
              rcases hk with hk | hk | hk
              · exact .inl (.inl hk)
              · rcases hr2 with h5 | ⟨i, h5, h6⟩
                · exact .inl (.inr (.inl (h5 ▸ hk)))
                · rw [hk] at h5; cases h5; exact .inr h6
              · exact .inl (.inr (.inr hk)))
            refine zl_nil ?_
            refine zk_seq ?_
            refine zc_seq ?_
            refine zc_region ?_
            refine zl_pureL rfl ?_
            refine zl_nil ?_
            refine zk_seq ?_
            refine zc_ret ?_
            refine zk_ret_then ?_
            refine zk_ret1 (.inr rfl) rfl rfl (good ?_ (WrD.pre hC1 hW3))
            unfold writeN
            rw [if_neg h0, if_pos ⟨hpos, hk2⟩]
            exact h3
          · refine z_cmpB (r := false) want_none (by decide) rfl rfl rfl (iff_of_false Bool.false_ne_true (by omega)) ?_
            refine zl_nil ?_
            refine zk_seq ?_
            refine zc_false rfl ?_
            refine zc_skip ?_
            exact zk_mid ⟨hC1.size, hC1, fun hh => hk2 hh.2⟩ ⟨rfl, rfl, rfl, rfl, trivial⟩
        · have hz : ¬ 0 < a := of_decide_eq_false hz
          refine zc_skip ?_
          exact zk_mid ⟨Nat.le_refl _, Chg.refl _ _, fun hh => hz hh.1⟩ ⟨rfl, rfl, rfl, rfl, trivial⟩
      rintro w1 ⟨_, hC1, hlk⟩
      have htl := tail hlk
      refine zc_seq ?_
      refine zc_region ?_
      iterate 3 (refine zl_pureL rfl ?_)
      refine z_convSO (by first | exact want_none | exact want_L rfl) (by decide) rfl hsm (fun w2 b2 c2 hb2 hC2 hO2 => ?_)
      skip
      refine z_buildE #[.int .i64 2, .int .i64 0, .string ⟨#[]⟩, .slice none 0 0, .slice (some ⟨b2, 0, none⟩) s.length c2, .int .i64 0, .slice none 0 0] (by first | exact want_none | exact want_L rfl) (by decide) rfl (by kernel_rfl) ?_
      refine z_box (by first | exact want_none | exact want_L rfl) (by decide) rfl (fun w3 b3 hN3 => ?_)
      skip
      have hC02 := hC1.no hC2
      have hC3 := hC02.new hN3
      have hq : NodeAt w3 ⟨b3, .slice none 0 0, .slice (some ⟨b2, 0, none⟩) s.length c2, .slice none 0 0⟩ ⟨2, 0, ⟨#[]⟩, [], s, 0, []⟩ := ⟨hN3.blk, RdS.nil, hO2.no hN3.chg, .nil⟩
      have hge := hN3.ge hC02
      have hnf : ∀ k, nf ⟨b3, .slice none 0 0, .slice (some ⟨b2, 0, none⟩) s.length c2, .slice none 0 0⟩ k → w.heap.size ≤ k := by
        rintro k (rfl | hk | hk)
        · exact hge
        · simp [Value.ownBlock] at hk; have := hC1.size; omega
        · cases hk
      refine zl_call (by first | exact want_none | exact want_L rfl) rfl (by decide) rfl (add_calls (h.no hC3) hl hq (fun k hk hf => by have := hnf k hk; have := h.lt k hf; omega) rfl) ?_
      rintro _ w4 ⟨rfl, vl', g1, g2, g3, g4⟩
      refine ⟨_, rfl, ?_⟩
      have hWa := WrD.add hC3 hnf g2 g3 g4
      have hgj : (N ++ [textN s]).getD j n0 = N.getD j n0 := by rw [getD_add, if_neg (by omega)]
      iterate 2 (refine zl_pureL rfl ?_)
      refine zl_call (by first | exact want_none | exact want_L rfl) rfl (by decide) rfl (lay_calls (N := N ++ [textN s]) g1 N.length j a (by simp) (by simp; omega) (by omega) (by rw [hgj]; exact hal) (by rw [hgj]; omega)) ?_
      rintro _ w5 ⟨rfl, Q', h5, hW5⟩
      refine ⟨_, rfl, ?_⟩
      refine zl_nil ?_
      refine zk_seq ?_
      refine zc_seq ?_
      refine zc_region ?_
      refine zl_pureL rfl ?_
      refine zl_nil ?_
      refine zk_seq ?_
      refine zc_ret ?_
      exact zk_ret1 (.inr rfl) rfl rfl (good (by rw [htl]; exact h5) (hWa.trans hW5))
  · rw [decide_eq_false h2]
    refine zl_pureL rfl ?_
    refine zl_nil ?_
    refine zk_seq ?_
    refine zc_true rfl ?_
    refine zc_seq ?_
    refine zc_region ?_
    refine zl_pureL rfl ?_
    refine zl_nil ?_
    refine zk_seq ?_
    refine zc_ret ?_
    refine zk_ret_then ?_
    exact zk_ret1 (.inr rfl) rfl rfl (bad (fun hh => h2 ⟨hh.1, hh.2.1⟩))
end Go.Proofs.Yteeibieaapiomaa.D
