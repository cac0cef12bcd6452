import Derived.Test.YtjiehalanklapaaDDoc6
/- Move. -/
namespace Go.Proofs.Ytjiehalanklapaa.D
open Go Go.Z Go.Proofs
set_option linter.unusedVariables false
theorem set_self {α : Type} (l : List α) (i : Nat) (d : α) (hi : i < l.length) : l.set i (l.getD i d) = l := by
  apply List.ext_getElem?
  intro j
  rw [List.getElem?_set]
  by_cases h : i = j
  · subst h; rw [if_pos rfl, if_pos hi, List.getD_eq_getElem?_getD, List.getElem?_eq_getElem hi]; rfl
  · rw [if_neg h]
theorem upsN_snoc : ∀ (ks : List Nat) (N : List ND) (k b : Nat), upsN N (ks ++ [k]) b = (upsN N ks b).set k { (upsN N ks b).getD k n0 with up := b }
  | [], N, k, b => rfl
  | j :: r, N, k, b => by
    show upsN _ (r ++ [k]) b = _
    rw [upsN_snoc r]; rfl
theorem upsN_kids (N : List ND) (ks : List Nat) (b i : Nat) (h : ∀ k ∈ ks, k < N.length) : ((upsN N ks b).getD i n0).kids = (N.getD i n0).kids := by
  rw [upsN_get ks N b h]; split <;> rfl
def MoveOk (N : List ND) (a b : Int) : Prop := (isN N a ∧ (ndOf N a).kind = 1) ∧ (isN N b ∧ (ndOf N b).kind = 1) ∧ ¬ Anc N b.toNat a.toNat
def MoveR (N : List ND) (a b : Int) (q : Bool) (N' : List ND) : Prop := (MoveOk N a b → q = true ∧ N' = moveN N a.toNat b.toNat) ∧ (¬ MoveOk N a b → q = false ∧ N' = N)
theorem MoveR.det {N N1 N2 : List ND} {a b : Int} {q1 q2 : Bool} (h1 : MoveR N a b q1 N1) (h2 : MoveR N a b q2 N2) : q1 = q2 ∧ N1 = N2 := by
  by_cases h : MoveOk N a b
  · obtain ⟨x, y⟩ := h1.1 h; obtain ⟨c, d⟩ := h2.1 h; exact ⟨x.trans c.symm, y.trans d.symm⟩
  · obtain ⟨x, y⟩ := h1.2 h; obtain ⟨c, d⟩ := h2.2 h; exact ⟨x.trans c.symm, y.trans d.symm⟩
theorem MoveR.wf {N N' : List ND} {a b : Int} {q : Bool} (h : MoveR N a b q N') (hW : WF N) : WF N' ∧ N'.length = N.length := by
  by_cases ho : MoveOk N a b
  · rw [(h.1 ho).2]
    obtain ⟨⟨⟨h1, h2⟩, _⟩, ⟨⟨h3, h4⟩, _⟩, h5⟩ := ho
    exact ⟨hW.move (by omega) (by omega) h5, moveN_len _ _ _⟩
  · rw [(h.2 ho).2]; exact ⟨hW, rfl⟩
set_option maxHeartbeats 8000000 in
theorem move_calls {w : World} {p : Nat} {vl : Value} {Q : List PN} {N : List ND} (h : IsD w p vl Q N) (hW : WF N) (hl : N.length ≤ 100000) (a b : Int) :
    Calls Try.prog 23 [.pointer (some ⟨p, 0, none⟩), .int .i64 a, .int .i64 b].toArray w fun e w' => ∃ q Q' N', e = .returned (.bool q) ∧ IsD w' p vl Q' N' ∧ WrD w w' p vl Q vl Q' ∧ MoveR N a b q N' := by
  have bad : ¬ MoveOk N a b → ∃ q Q' N', (Ending.returned (.bool false)) = .returned (.bool q) ∧ IsD w p vl Q' N' ∧ WrD w w p vl Q vl Q' ∧ MoveR N a b q N' := fun hn => ⟨false, Q, N, rfl, h, WrD.refl _ _ _ _, fun hh => absurd hh hn, fun _ => ⟨rfl, rfl⟩⟩
  refine calls_zc (n := 90) (f := 23) (fn := Try.f23) Try.func23 rfl rfl (by simp) ?_
  refine zc_seq ?_
  refine zc_region ?_
  refine zl_pureL rfl ?_
  refine zl_nil ?_
  refine zk_seq ?_
  iterate 2 (refine zc_seq ?_)
  refine zc_region ?_
  iterate 2 (refine zl_pureL rfl ?_)
  refine zl_call (by first | exact want_none | exact want_L rfl) rfl (by decide) rfl (elem_calls h a) ?_
  rintro _ u ⟨rfl, hu⟩
  obtain rfl := hu.symm
  refine ⟨_, rfl, ?_⟩
  by_cases h1 : isN N a ∧ (ndOf N a).kind = 1
  · rw [decide_eq_true h1]
    iterate 4 (refine zl_pureL rfl ?_)
    refine zl_call (by first | exact want_none | exact want_L rfl) rfl (by decide) rfl (elem_calls h b) ?_
    rintro _ u ⟨rfl, hu⟩
    obtain rfl := hu.symm
    refine ⟨_, rfl, ?_⟩
    by_cases h2 : isN N b ∧ (ndOf N b).kind = 1
    · rw [decide_eq_true h2]
      obtain ⟨i, rfl⟩ := Int.eq_ofNat_of_zero_le h1.1.1
      have hi : i < N.length := by have := h1.1.2; omega
      obtain ⟨j, rfl⟩ := Int.eq_ofNat_of_zero_le h2.1.1
      have hj : j < N.length := by have := h2.1.2; omega
      iterate 6 (refine zl_pureL rfl ?_)
      refine zl_call (by first | exact want_none | exact want_L rfl) rfl (by decide) rfl (below_calls h hW j i hj hi) ?_
      rintro _ u ⟨q1, rfl, hq1, hu⟩
      obtain rfl := hu.symm
      refine ⟨_, rfl, ?_⟩
      cases q1
      · have hna : ¬ Anc N j i := fun ha => absurd (hq1.2 ha) Bool.false_ne_true
        have hij : i ≠ j := fun he => hna (he ▸ Anc.refl i)
        have hki := hW.kids_len hi
        have hkj := hW.kids_len hj
        have hlt : ∀ k ∈ (N.getD i n0).kids, k < N.length := fun k hk => ((hW.kid i k hi).1 hk).1
        obtain ⟨bv, o, c, hv, hp⟩ := h.ptr i hi
        have hb := h.blk
        rw [hv] at hb
        obtain ⟨hn, _, _, hK⟩ := h.at_ i hi
        obtain ⟨Ai, ci, hvi, _⟩ := hK.rd.form
        rw [hvi] at hn
        refine zl_pureL rfl ?_
        refine zl_nil ?_
        refine zk_seq ?_
        refine zc_false rfl ?_
        refine zc_skip ?_
        refine zk_seq ?_
        iterate 2 (refine zc_seq ?_)
        refine zc_region ?_
        iterate 2 (refine zl_pureL rfl ?_)
        refine z_fa want_none (by decide) rfl ?_
        refine z_loadB want_none (by decide) rfl (by assumption) (by rfl) ?_
        refine zl_pureL rfl ?_
        refine z_ia want_none (by decide) rfl rfl (by omega) (by omega) ?_
        refine z_load1 (by first | exact want_none | exact want_L rfl) (by decide) rfl (cell_at hp (by omega)) ?_
        refine zl_pureL rfl ?_
        refine z_fa want_none (by decide) rfl ?_
        refine z_loadB want_none (by decide) rfl (by assumption) (by rfl) ?_
        refine z_len want_none (by decide) rfl ?_
        refine zl_pureL rfl ?_
        refine zl_nil ?_
        refine zk_seq ?_
        refine zc_block ?_
        refine zc_midB (fun u => IsD u p vl Q (upsN N (N.getD i n0).kids j) ∧ WrD w u p vl Q vl Q) [(0, .pointer (some ⟨p, 0, none⟩)), (1, .int .i64 i), (2, .int .i64 j)] ?_ ?_
        · refine zc_loopW (ι := Nat) (fun k u => [(0, .pointer (some ⟨p, 0, none⟩)), (1, .int .i64 i), (2, .int .i64 j), (34, .slice Ai (N.getD i n0).kids.length ci), (35, .int .i64 (N.getD i n0).kids.length), (36, .int .i64 k)])
            (fun k u => k ≤ (N.getD i n0).kids.length ∧ IsD u p vl Q (upsN N ((N.getD i n0).kids.take k) j) ∧ WrD w u p vl Q vl Q) (fun k u => (N.getD i n0).kids.length - k) 0 ⟨Nat.zero_le _, h, WrD.refl _ _ _ _⟩ ?_ ?_
          · exact ⟨rfl, rfl, rfl, rfl, rfl, rfl, trivial⟩
          rintro k u ⟨hk, hu, hWu⟩
          by_cases hlk : k < (N.getD i n0).kids.length
          · have hlt' : ∀ x ∈ (N.getD i n0).kids.take k, x < N.length := fun x hx => hlt x (List.mem_of_mem_take hx)
            have hNl := upsN_len ((N.getD i n0).kids.take k) N j
            obtain ⟨_, _, _, hKu⟩ := hu.at_ i (by omega)
            rw [upsN_kids _ _ _ _ hlt'] at hKu
            obtain ⟨bk, ok, ck, hvk, _, hck⟩ := RdS.some hKu.rd (by omega)
            rw [hvi] at hvk
            cases hvk
            have hcell := hck k _ (intC_get _ k hlk)
            have hnk : (N.getD i n0).kids.getD k 0 < N.length := hlt _ (getD_mem hlk)
            have hnx : ∃ nk, nk = (N.getD i n0).kids.getD k 0 := ⟨_, rfl⟩
            obtain ⟨nk, hnke⟩ := hnx
            rw [← hnke] at hcell hnk
            have hnk' : nk < (upsN N ((N.getD i n0).kids.take k) j).length := by omega
            obtain ⟨b', o', c', hv', hp'⟩ := hu.ptr nk hnk'
            have hbu := hu.blk
            rw [hv'] at hbu
            have hnn := hu.at_ nk hnk'
            have hqm : ∃ qn, qn = Q.getD nk q0 := ⟨_, rfl⟩
            obtain ⟨⟨mb, ma, mt, mk⟩, hqm⟩ := hqm
            rw [← hqm] at hnn hp'
            have hbn := hnn.1
            dsimp only at hbn hp'
            refine zc_seq ?_
            refine zc_region ?_
            refine z_cmpB (r := true) want_none (by decide) rfl rfl rfl (iff_of_true rfl (by omega)) ?_
            refine zl_nil ?_
            refine zk_seq ?_
            refine zc_seq ?_
            refine zc_true rfl ?_
            refine zc_skip ?_
            refine zk_seq ?_
            refine zc_seq ?_
            refine zc_block ?_
            refine zc_seq ?_
            refine zc_region ?_
            refine z_ia want_none (by decide) rfl rfl (by omega) (by omega) ?_
            refine z_load1 (by first | exact want_none | exact want_L rfl) (by decide) rfl (cell_at hcell (by omega)) ?_
            refine zl_pureL rfl ?_
            refine zl_nil ?_
            refine zk_seq ?_
            refine zc_region ?_
            iterate 2 (refine zl_pureL rfl ?_)
            refine z_fa want_none (by decide) rfl ?_
            refine z_loadB want_none (by decide) rfl (by assumption) (by rfl) ?_
            refine zl_pureL rfl ?_
            refine z_ia want_none (by decide) rfl rfl (by omega) (by omega) ?_
            refine z_load1 (by first | exact want_none | exact want_L rfl) (by decide) rfl (cell_at hp' (by omega)) ?_
            iterate 2 (refine zl_pureL rfl ?_)
            refine z_fa want_none (by decide) rfl ?_
            refine z_store (by first | exact want_none | exact want_L rfl) rfl rfl rfl (by assumption) (by first | exact Nat.le_refl _ | simp [Value.cells]) (by simp [Value.cells, Value.oneCell']) (fun u7 hU7 => ?_)
            have hn7 := NodeAt.put (x' := { (upsN N ((N.getD i n0).kids.take k) j).getD nk n0 with up := j }) hnn hU7 rfl rfl rfl
            obtain ⟨h7, hW7⟩ := hu.set nk hnk' (q' := ⟨mb, ma, mt, mk⟩) hU7.chg (fun k hs => .inl (by rw [hs, ← hqm])) hn7 (by rw [← hqm]) (fun k hk => .inl (by rw [← hqm]; exact hk))
            rw [hqm, set_self Q nk q0 (by rw [hu.len]; exact hnk')] at h7 hW7
            have e7 : upsN N ((N.getD i n0).kids.take (k + 1)) j = (upsN N ((N.getD i n0).kids.take k) j).set nk { (upsN N ((N.getD i n0).kids.take k) j).getD nk n0 with up := j } := by
              rw [take_getD 0 hlk, upsN_snoc, ← hnke]
            refine zl_nil ?_
            refine zk_norm_block ?_
            refine zk_seq ?_
            refine zc_region ?_
            refine z_add want_none (by decide) rfl rfl (by omega) (by omega) ?_
            refine zl_pureL rfl ?_
            refine zl_nil ?_
            exact zk_loopW (k + 1) ⟨hlk, by rw [e7]; exact h7, hWu.trans hW7⟩ (by show _ - (k + 1) < _ - k; omega) ⟨rfl, rfl, rfl, rfl, rfl, get_int rfl (by omega), trivial⟩
          · obtain rfl : k = (N.getD i n0).kids.length := by omega
            rw [List.take_length] at hu
            refine zc_seq ?_
            refine zc_region ?_
            refine z_cmpB (r := false) want_none (by decide) rfl rfl rfl (iff_of_false Bool.false_ne_true (by omega)) ?_
            refine zl_nil ?_
            refine zk_seq ?_
            refine zc_seq ?_
            refine zc_false rfl ?_
            refine zc_exit ?_
            iterate 2 (refine zk_exit_then ?_)
            refine zk_exit_block ?_
            exact zk_mid ⟨hu, hWu⟩ ⟨rfl, rfl, rfl, trivial⟩
        rintro w1 ⟨h1', hW1⟩
        have hNl := upsN_len (N.getD i n0).kids N j
        have eki : ((upsN N (N.getD i n0).kids j).getD i n0).kids = (N.getD i n0).kids := upsN_kids _ _ _ _ hlt
        have ekj : ((upsN N (N.getD i n0).kids j).getD j n0).kids = (N.getD j n0).kids := upsN_kids _ _ _ _ hlt
        have hM : ∃ M, M = upsN N (N.getD i n0).kids j := ⟨_, rfl⟩
        obtain ⟨M, hM⟩ := hM
        rw [← hM] at h1' hNl eki ekj
        have hi' : i < M.length := by omega
        have hj' : j < M.length := by omega
        obtain ⟨b1, o1, c1, hv1, hp1⟩ := h1'.ptr i hi'
        obtain ⟨b2, o2, c2, hv2, hp2⟩ := h1'.ptr j hj'
        rw [hv1] at hv2
        cases hv2
        have hbp := h1'.blk
        have hrow := h1'.row
        rw [hv1] at hbp hrow
        have hbv : ∃ cells, Blk w1 b1 71 cells := hrow.blk (k := b1) rfl
        obtain ⟨vcells, hbv⟩ := hbv
        rw [hbv.cell] at hp1 hp2
        have hni := h1'.at_ i hi'
        have hnj := h1'.at_ j hj'
        have hqi : ∃ qn, qn = Q.getD i q0 := ⟨_, rfl⟩
        obtain ⟨⟨ib, ia, it, ik⟩, hqi⟩ := hqi
        have hqj : ∃ qn, qn = Q.getD j q0 := ⟨_, rfl⟩
        obtain ⟨⟨jb, ja, jt, jk⟩, hqj⟩ := hqj
        rw [← hqi] at hni hp1
        rw [← hqj] at hnj hp2
        obtain ⟨hbi, hAi, hTi, hKi⟩ := hni
        obtain ⟨hbj, hAj, hTj, hKj⟩ := hnj
        dsimp only at hbi hAi hTi hKi hbj hAj hTj hKj hp1 hp2
        rw [eki] at hKi
        rw [ekj] at hKj
        have hapij : ∀ k, nf ⟨ib, ia, it, ik⟩ k → ¬ nf ⟨jb, ja, jt, jk⟩ k := fun k hk hk' => h1'.ap i j hi' hj' hij k (by rw [← hqi]; exact hk) (by rw [← hqj]; exact hk')
        refine zc_seq ?_
        refine zc_draw [30] (fun w' => Blk w' p 69 [.slice (some ⟨b1, o1, none⟩) M.length c1] ∧ Blk w' jb 75 [.int .i64 (M.getD j n0).kind, .int .i64 (M.getD j n0).space, .string (M.getD j n0).name, ja, jt, .int .i64 (M.getD j n0).up, jk] ∧ Blk w' ib 75 [.int .i64 (M.getD i n0).kind, .int .i64 (M.getD i n0).space, .string (M.getD i n0).name, ia, it, .int .i64 (M.getD i n0).up, ik] ∧ Blk w' b1 71 vcells) (.take 0 (.take 1 (.take 2 (.take 3 (.take 4 (.take 5 (.take 6 (.take 7 (.take 8 (.take 9 (.take 10 (.take 11 (.take 12 (.take 13 (.take 14 (.take 15 (.take 16 (.take 17 (.take 18 (.take 19 (.take 20 (.take 21 (.take 22 (.take 23 (.take 24 (.take 25 (.take 26 (.all1 27 (.plain 28 (.take 29 (.last 30))))))))))))))))))))))))))))))) (by rfl) (by kernel_rfl) (by kernel_rfl) (fun w2 hC2 _ => ⟨?_, ?_⟩)
        · exact ⟨hbp.no hC2, hbj.no hC2, hbi.no hC2, hbv.no hC2⟩
        iterate 2 (refine zs_take rfl (zt_pure rfl ?_))
        refine zs_rdL rfl want_none rfl (by decide) (fun _ hS => r_fa rfl) ?_
        refine zs_rdL rfl want_none rfl (by decide) (fun _ hS => r_loadB rfl hS.1 (by rfl)) ?_
        refine zs_take rfl (zt_pure rfl ?_)
        refine zs_rdL rfl want_none rfl (by decide) (fun _ hS => r_ia rfl rfl (by omega) (by omega)) ?_
        refine zs_rdL rfl (by first | exact want_none | exact want_L rfl) rfl (by decide) (fun _ hS => r_load1 rfl (cell_at ((hS.2.2.2.cell _).trans hp2) (by omega))) ?_
        iterate 2 (refine zs_take rfl (zt_pure rfl ?_))
        refine zs_rdL rfl want_none rfl (by decide) (fun _ hS => r_fa rfl) ?_
        refine zs_rdL rfl want_none rfl (by decide) (fun _ hS => r_loadB rfl hS.1 (by rfl)) ?_
        refine zs_take rfl (zt_pure rfl ?_)
        refine zs_rdL rfl want_none rfl (by decide) (fun _ hS => r_ia rfl rfl (by omega) (by omega)) ?_
        refine zs_rdL rfl (by first | exact want_none | exact want_L rfl) rfl (by decide) (fun _ hS => r_load1 rfl (cell_at ((hS.2.2.2.cell _).trans hp2) (by omega))) ?_
        refine zs_take rfl (zt_pure rfl ?_)
        refine zs_rdL rfl want_none rfl (by decide) (fun _ hS => r_fa rfl) ?_
        refine zs_rdL rfl want_none rfl (by decide) (fun _ hS => r_loadB rfl hS.2.1 (by rfl)) ?_
        iterate 2 (refine zs_take rfl (zt_pure rfl ?_))
        refine zs_rdL rfl want_none rfl (by decide) (fun _ hS => r_fa rfl) ?_
        refine zs_rdL rfl want_none rfl (by decide) (fun _ hS => r_loadB rfl hS.1 (by rfl)) ?_
        refine zs_take rfl (zt_pure rfl ?_)
        refine zs_rdL rfl want_none rfl (by decide) (fun _ hS => r_ia rfl rfl (by omega) (by omega)) ?_
        refine zs_rdL rfl (by first | exact want_none | exact want_L rfl) rfl (by decide) (fun _ hS => r_load1 rfl (cell_at ((hS.2.2.2.cell _).trans hp1) (by omega))) ?_
        refine zs_take rfl (zt_pure rfl ?_)
        refine zs_rdL rfl want_none rfl (by decide) (fun _ hS => r_fa rfl) ?_
        refine zs_rdL rfl want_none rfl (by decide) (fun _ hS => r_loadB rfl hS.2.2.1 (by rfl)) ?_
        have hKj2 := hKj.no hC2
        refine zs_appendO rfl (by rfl) (by decide) (by first | exact want_none | exact want_L rfl) (by decide) rfl rfl hKj2 (hKi.no hC2).rd (by omega) (by omega) (fun v3 w3 hO3 hC3 hr3 => ?_)
        have hbj3 := (hbj.no hC2).chg hC3 (fun he => hKj2.ne he (hbj.no hC2) (by decide) rfl)
        have hbi3 := (hbi.no hC2).chg hC3 (fun he => hKj2.ne he (hbi.no hC2) (by decide) rfl)
        have hbp3 := (hbp.no hC2).chg hC3 (fun he => hKj2.ne he (hbp.no hC2) (by decide) rfl)
        have hbv3 := (hbv.no hC2).chg hC3 (fun he => hKj2.ne he (hbv.no hC2) (by decide) rfl)
        refine ⟨⟨hbp3, hbj3, hbi3, hbv3⟩, ?_⟩
        obtain ⟨A3, c3, rfl, _⟩ := hO3.rd.form
        refine zs_plainL rfl rfl ?_
        refine zs_rdL rfl want_none rfl (by decide) (fun _ hS => r_fa rfl) ?_
        refine zs_storeL rfl (by first | exact want_none | exact want_L rfl) rfl rfl rfl (by assumption) (by first | exact Nat.le_refl _ | simp [Value.cells]) (by simp [Value.cells, Value.oneCell']) (fun w4 hU4 => ?_)
        have hO4 := hO3.chg hU4.chg (fun k hk he => hO3.ne hk hbj3 (by decide) he)
        have hC14 : Chg w1 w4 (fun k => k = jb ∨ jk.ownBlock = some k) := ((hC2.mono (fun _ _ h => h.elim)).trans hC3 (fun _ _ h => .inr h)).trans hU4.chg (fun _ _ h => .inl h)
        have hn4 : NodeAt w4 ⟨jb, ja, jt, .slice A3 ((N.getD j n0).kids.length + (N.getD i n0).kids.length) c3⟩ { M.getD j n0 with kids := (N.getD j n0).kids ++ (N.getD i n0).kids } := by
          refine ⟨hU4.blk, ?_, ?_, ?_⟩
          · refine RdS.chg hAj hC14 (fun b' cells hb hs => ?_)
            rcases hs with hs | hs
            · exact hb.ne hbj (by decide) hs
            · exact hKj.ne hs hb (by decide) rfl
          · refine hTj.chg hC14 (fun k hk hs => ?_)
            rcases hs with hs | hs
            · exact hTj.ne hk hbj (by decide) hs
            · obtain ⟨cells, hb⟩ := hKj.blk hs
              exact hTj.ne hk hb (by decide) rfl
          · dsimp only; rw [List.length_append, intC_app]; exact hO4
        obtain ⟨h4, hW4⟩ := h1'.set j hj' (q' := ⟨jb, ja, jt, .slice A3 ((N.getD j n0).kids.length + (N.getD i n0).kids.length) c3⟩) hC14 (fun k hs => by rw [← hqj]; exact hs.imp id .inr) hn4 (by rw [← hqj]) (fun k hk => by
          rw [← hqj]
          rcases hk with hk | hk | hk
          · exact .inl (.inl hk)
          · exact .inl (.inr (.inl hk))
          · rcases hr3 with h5 | ⟨m, h5, h6⟩
            · exact .inl (.inr (.inr (h5 ▸ hk)))
            · rw [hk] at h5; cases h5; have := hC2.size; exact .inr (by omega))
        have hi5 : i < (M.set j { M.getD j n0 with kids := (N.getD j n0).kids ++ (N.getD i n0).kids }).length := by rw [List.length_set]; exact hi'
        obtain ⟨b6, o6, c6, hv6, hp6⟩ := h4.ptr i hi5
        have hblk5 := h4.blk
        rw [hv6] at hblk5
        have hnn := h4.at_ i hi5
        rw [getD_set _ _ _ _ _ hj', if_neg hij, getD_set _ _ _ _ _ (by rw [h1'.len]; exact hj'), if_neg hij, ← hqi] at hnn
        rw [getD_set _ _ _ _ _ (by rw [h1'.len]; exact hj'), if_neg hij, ← hqi] at hp6
        obtain ⟨hbn, hAn, hTn, hKn⟩ := hnn
        dsimp only at hbn hAn hTn hKn hp6
        refine zk_seq ?_
        refine zc_seq ?_
        refine zc_region ?_
        iterate 2 (refine zl_pureL rfl ?_)
        refine z_fa want_none (by decide) rfl ?_
        refine z_loadB want_none (by decide) rfl (by assumption) (by rfl) ?_
        refine zl_pureL rfl ?_
        refine z_ia want_none (by decide) rfl rfl (by omega) (by omega) ?_
        refine z_load1 (by first | exact want_none | exact want_L rfl) (by decide) rfl (cell_at hp6 (by omega)) ?_
        refine zl_pureL rfl ?_
        refine z_fa want_none (by decide) rfl ?_
        refine z_store (by first | exact want_none | exact want_L rfl) rfl rfl rfl (by assumption) (by first | exact Nat.le_refl _ | simp [Value.cells]) (by simp [Value.cells, Value.oneCell']) (fun w7 hU7 => ?_)
        have hn7 : NodeAt w7 ⟨ib, ia, it, .slice none 0 0⟩ { M.getD i n0 with kids := [] } := by
          refine ⟨hU7.blk, ?_, ?_, Own.nil⟩
          · exact RdS.chg hAn hU7.chg (fun b' cells hb hs => hb.ne hbn (by decide) hs)
          · exact hTn.chg hU7.chg (fun k hk hs => hTn.ne hk hbn (by decide) hs)
        obtain ⟨h7, hW7⟩ := h4.set i hi5 (q' := ⟨ib, ia, it, .slice none 0 0⟩) hU7.chg (fun k hs => .inl (by rw [getD_set _ _ _ _ _ (by rw [h1'.len]; exact hj'), if_neg hij, ← hqi]; exact hs)) hn7 (by rw [getD_set _ _ _ _ _ (by rw [h1'.len]; exact hj'), if_neg hij, ← hqi]) (fun k hk => by
          rw [getD_set _ _ _ _ _ (by rw [h1'.len]; exact hj'), if_neg hij, ← hqi]
          rcases hk with hk | hk | hk
          · exact .inl (.inl hk)
          · exact .inl (.inr (.inl hk))
          · cases hk)
        refine zl_nil ?_
        refine zk_seq ?_
        refine zc_seq ?_
        refine zc_region ?_
        refine zl_pureL rfl ?_
        refine zl_nil ?_
        refine zk_seq ?_
        refine zc_ret ?_
        refine zk_ret1 (.inr rfl) rfl rfl ⟨true, _, _, rfl, h7, (hW1.trans hW4).trans hW7, fun _ => ⟨rfl, ?_⟩, fun hh => absurd ⟨h1, h2, hna⟩ hh⟩
        show _ = moveN N i j
        unfold moveN
        rw [← hM]
      · refine zl_pureL rfl ?_
        refine zl_nil ?_
        refine zk_seq ?_
        refine zc_true rfl ?_
        refine zc_seq ?_
        refine zc_region ?_
        refine zl_pureL rfl ?_
        refine zl_nil ?_
        refine zk_seq ?_
        refine zc_ret ?_
        refine zk_ret_then ?_
        exact zk_ret1 (.inr rfl) rfl rfl (bad (fun hh => hh.2.2 (hq1.1 rfl)))
    · rw [decide_eq_false h2]
      iterate 6 (refine zl_pureL rfl ?_)
      refine zl_skip rfl ?_
      refine zl_pureL rfl ?_
      refine zl_nil ?_
      refine zk_seq ?_
      refine zc_true rfl ?_
      refine zc_seq ?_
      refine zc_region ?_
      refine zl_pureL rfl ?_
      refine zl_nil ?_
      refine zk_seq ?_
      refine zc_ret ?_
      refine zk_ret_then ?_
      exact zk_ret1 (.inr rfl) rfl rfl (bad (fun hh => h2 hh.2.1))
  · rw [decide_eq_false h1]
    iterate 4 (refine zl_pureL rfl ?_)
    refine zl_skip rfl ?_
    iterate 6 (refine zl_pureL rfl ?_)
    refine zl_skip rfl ?_
    refine zl_pureL rfl ?_
    refine zl_nil ?_
    refine zk_seq ?_
    refine zc_true rfl ?_
    refine zc_seq ?_
    refine zc_region ?_
    refine zl_pureL rfl ?_
    refine zl_nil ?_
    refine zk_seq ?_
    refine zc_ret ?_
    refine zk_ret_then ?_
    exact zk_ret1 (.inr rfl) rfl rfl (bad (fun hh => h1 hh.1))
end Go.Proofs.Ytjiehalanklapaa.D
