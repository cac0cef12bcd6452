import Derived.Test.YtjiehalanklapaaDDoc5
/- Take, Move. -/
namespace Go.Proofs.Ytjiehalanklapaa.D
open Go Go.Z Go.Proofs
set_option linter.unusedVariables false
theorem optI_eq {x : Option Operand} {e : Env} {d a b : Int} (h : optI x e d = some a) (hab : a = b) : optI x e d = some b := by rw [h, hab]
theorem lay_drop {α : Type} (l : List α) (i : Nat) (h : i < l.length) : (l.take i ++ l.drop (i + 1) ++ l.drop (l.length - 1)).take (l.length - 1) = l.take i ++ l.drop (i + 1) := by
  rw [List.take_append_of_le_length (by simp; omega), List.take_of_length_le (by simp; omega)]
def TakeOk (N : List ND) (n : Int) : Prop := isN N n ∧ 0 ≤ (ndOf N n).up
def TakeR (N : List ND) (n : Int) (q : Bool) (N' : List ND) : Prop := (TakeOk N n → q = true ∧ N' = takeN N n.toNat) ∧ (¬ TakeOk N n → q = false ∧ N' = N)
theorem TakeR.det {N N1 N2 : List ND} {n : Int} {q1 q2 : Bool} (h1 : TakeR N n q1 N1) (h2 : TakeR N n q2 N2) : q1 = q2 ∧ N1 = N2 := by
  by_cases h : TakeOk N n
  · obtain ⟨a, b⟩ := h1.1 h; obtain ⟨c, d⟩ := h2.1 h; exact ⟨a.trans c.symm, b.trans d.symm⟩
  · obtain ⟨a, b⟩ := h1.2 h; obtain ⟨c, d⟩ := h2.2 h; exact ⟨a.trans c.symm, b.trans d.symm⟩
theorem TakeR.wf {N N' : List ND} {n : Int} {q : Bool} (h : TakeR N n q N') (hW : WF N) : WF N' ∧ N'.length = N.length := by
  by_cases ho : TakeOk N n
  · rw [(h.1 ho).2]
    obtain ⟨⟨h1, h2⟩, h3⟩ := ho
    obtain ⟨u, hu⟩ := Int.eq_ofNat_of_zero_le h3
    exact ⟨hW.take (by omega) hu, takeN_len _ _⟩
  · rw [(h.2 ho).2]; exact ⟨hW, rfl⟩
set_option maxHeartbeats 8000000 in
theorem take_calls {w : World} {p : Nat} {vl : Value} {Q : List PN} {N : List ND} (h : IsD w p vl Q N) (hW : WF N) (hl : N.length ≤ 100000) (n : Int) :
    Calls Try.prog 26 [.pointer (some ⟨p, 0, none⟩), .int .i64 n].toArray w fun e w' => ∃ q Q' N', e = .returned (.bool q) ∧ IsD w' p vl Q' N' ∧ WrD w w' p vl Q vl Q' ∧ TakeR N n q N' := by
  have bad : ¬ TakeOk N n → ∃ q Q' N', (Ending.returned (.bool false)) = .returned (.bool q) ∧ IsD w p vl Q' N' ∧ WrD w w p vl Q vl Q' ∧ TakeR N n q N' := fun hn => ⟨false, Q, N, rfl, h, WrD.refl _ _ _ _, fun hh => absurd hh hn, fun _ => ⟨rfl, rfl⟩⟩
  refine calls_zc (n := 96) (f := 26) (fn := Try.f26) Try.func26 rfl rfl (by simp) ?_
  refine zc_seq ?_
  refine zc_region ?_
  refine zl_pureL rfl ?_
  refine zl_nil ?_
  refine zk_seq ?_
  iterate 2 (refine zc_seq ?_)
  refine zc_region ?_
  iterate 2 (refine zl_pureL rfl ?_)
  refine zl_call (by first | exact want_none | exact want_L rfl) rfl (by decide) rfl (is_calls h n) ?_
  rintro _ u ⟨rfl, hu⟩
  obtain rfl := hu.symm
  refine ⟨_, rfl, ?_⟩
  by_cases h1 : isN N n
  · rw [decide_eq_true h1]
    obtain ⟨i, rfl⟩ := Int.eq_ofNat_of_zero_le h1.1
    have hi : i < N.length := by have := h1.2; omega
    obtain ⟨b, o, c, hv, hp⟩ := h.ptr i hi
    have hb := h.blk
    rw [hv] at hb
    have hn := (h.at_ i hi).1
    iterate 4 (refine zl_pureL rfl ?_)
    refine z_fa (want_L rfl) (by decide) rfl ?_
    refine z_loadB (want_L rfl) (by decide) rfl (by assumption) (by rfl) ?_
    refine zl_pureL rfl ?_
    refine z_ia (want_L rfl) (by decide) rfl rfl (by omega) (by omega) ?_
    refine z_load1 (by first | exact want_none | exact want_L rfl) (by decide) rfl (cell_at hp (by omega)) ?_
    by_cases h4 : (N.getD i n0).up < 0
    · refine zl_pureL rfl ?_
      refine z_fa (want_L rfl) (by decide) rfl ?_
      refine z_loadB (want_L rfl) (by decide) rfl (by assumption) (by rfl) ?_
      refine z_cmpB (r := true) (want_L rfl) (by decide) rfl rfl rfl (iff_of_true rfl (by omega)) ?_
      refine zl_pureL rfl ?_
      refine zl_nil ?_
      refine zk_seq ?_
      refine zc_true rfl ?_
      refine zc_seq ?_
      refine zc_region ?_
      refine zl_pureL rfl ?_
      refine zl_nil ?_
      refine zk_seq ?_
      refine zc_ret ?_
      refine zk_ret_then ?_
      exact zk_ret1 (.inr rfl) rfl rfl (bad (fun hh => by have : 0 ≤ (N.getD i n0).up := hh.2; omega))
    obtain ⟨u, hu⟩ := Int.eq_ofNat_of_zero_le (show 0 ≤ (N.getD i n0).up by omega)
    have hul : u < N.length := by have := (hW.up i hi).2; omega
    have hiu : i ≠ u := fun he => by
      obtain ⟨d, hd⟩ := hW.rank
      have := hd i hi u hu
      subst he; omega
    have hmem : i ∈ (N.getD u n0).kids := (hW.kid u i hul).2 ⟨hi, hu⟩
    have hnd := hW.nodup u hul
    have hkl := hW.kids_len hul
    rw [hu] at hn
    obtain ⟨b', o', c', hv', hp'⟩ := h.ptr u hul
    rw [hv] at hv'
    cases hv'
    have hqn : ∃ qn, qn = Q.getD u q0 := ⟨_, rfl⟩
    obtain ⟨⟨nb, na, nt, nk⟩, hqn⟩ := hqn
    rw [← hqn] at hp'
    dsimp only at hp'
    refine zl_pureL rfl ?_
    refine z_fa (want_L rfl) (by decide) rfl ?_
    refine z_loadB (want_L rfl) (by decide) rfl (by assumption) (by rfl) ?_
    refine z_cmpB (r := false) (want_L rfl) (by decide) rfl rfl rfl (iff_of_false Bool.false_ne_true (by omega)) ?_
    refine zl_pureL rfl ?_
    refine zl_nil ?_
    refine zk_seq ?_
    refine zc_false rfl ?_
    refine zc_skip ?_
    refine zk_seq ?_
    refine zc_seq ?_
    refine zc_draw [] (fun w' => Chg w w' No ∧ Blk w' p 69 [.slice (some ⟨b, o, none⟩) N.length c] ∧ Blk w' (Q.getD i q0).b 75 [.int .i64 (N.getD i n0).kind, .int .i64 (N.getD i n0).space, .string (N.getD i n0).name, (Q.getD i q0).va, (Q.getD i q0).vt, .int .i64 u, (Q.getD i q0).vk]) (.take 0 (.take 1 (.take 2 (.take 3 (.take 4 (.take 5 (.take 6 (.take 7 (.take 8 (.take 9 (.take 10 (.take 11 (.take 12 (.take 13 (.take 14 (.take 15 (.take 16 (.fin)))))))))))))))))) (by rfl) (by kernel_rfl) (by kernel_rfl) (fun w1 hC1 hH1 => ⟨?_, ?_⟩)
    · exact ⟨hC1, hb.no hC1, hn.no hC1⟩
    iterate 2 (refine zs_take rfl (zt_pure rfl ?_))
    refine zs_rdL rfl want_none rfl (by decide) (fun _ hS => r_fa rfl) ?_
    refine zs_rdL rfl want_none rfl (by decide) (fun _ hS => r_loadB rfl hS.2.1 (by rfl)) ?_
    iterate 2 (refine zs_take rfl (zt_pure rfl ?_))
    refine zs_rdL rfl want_none rfl (by decide) (fun _ hS => r_fa rfl) ?_
    refine zs_rdL rfl want_none rfl (by decide) (fun _ hS => r_loadB rfl hS.2.1 (by rfl)) ?_
    refine zs_take rfl (zt_pure rfl ?_)
    refine zs_rdL rfl want_none rfl (by decide) (fun _ hS => r_ia rfl rfl (by omega) (by omega)) ?_
    refine zs_rdL rfl (by first | exact want_none | exact want_L rfl) rfl (by decide) (fun _ hS => r_load1 rfl (cell_at (cell_no hS.1 hp) (by omega))) ?_
    refine zs_take rfl (zt_pure rfl ?_)
    refine zs_rdL rfl want_none rfl (by decide) (fun _ hS => r_fa rfl) ?_
    refine zs_rdL rfl want_none rfl (by decide) (fun _ hS => r_loadB rfl hS.2.2 (by rfl)) ?_
    refine zs_rdL rfl want_none rfl (by decide) (fun _ hS => r_ia rfl rfl (by omega) (by omega)) ?_
    refine zs_rdL rfl (by first | exact want_none | exact want_L rfl) rfl (by decide) (fun _ hS => r_load1 rfl (cell_at (cell_no hS.1 hp') (by omega))) ?_
    refine zs_take rfl (zt_pure rfl ?_)
    refine zs_fin ?_
    refine zk_seq ?_
    iterate 2 (refine zc_seq ?_)
    refine zc_region ?_
    iterate 2 (refine zl_pureL rfl ?_)
    refine z_fa want_none (by decide) rfl ?_
    have h' := h.no hC1
    have hnu := h'.at_ u hul
    rw [← hqn] at hnu
    obtain ⟨hbu, hA, hT, hK⟩ := hnu
    dsimp only at hbu hA hT hK
    have hpos : 0 < (N.getD u n0).kids.length := List.length_pos_of_mem hmem
    obtain ⟨hl2, hcs⟩ := hK.cases
    rcases hcs with ⟨_, h0, _⟩ | ⟨bk, ck, junk, rfl, hck, _⟩
    · omega
    have hbb : bk ≠ nb := hK.ne rfl hbu (by decide)
    refine z_loadB want_none (by decide) rfl (by assumption) (by rfl) ?_
    refine z_len want_none (by decide) rfl ?_
    refine z_sub want_none (by decide) rfl rfl (by omega) (by omega) ?_
    refine zl_pureL rfl ?_
    refine zl_nil ?_
    refine zk_seq ?_
    refine zc_block ?_
    refine zc_loop (ι := Nat) (fun k => [(0, .pointer (some ⟨p, 0, none⟩)), (1, .int .i64 i), (5, .pointer (some ⟨nb, 0, none⟩)), (6, .int .i64 ((k : Int) - 1))]) (fun _ => w1) (fun k => k ≤ (N.getD u n0).kids.length ∧ findK (N.getD u n0).kids i k = findK (N.getD u n0).kids i (N.getD u n0).kids.length) (fun k => k) (N.getD u n0).kids.length ⟨Nat.le_refl _, rfl⟩ ?_ ?_ ?_
    · rfl
    · exact ⟨rfl, rfl, rfl, rfl, trivial⟩
    rintro k ⟨hkk, hf⟩
    cases k with
    | zero =>
      obtain ⟨j, hj, he, hfj⟩ := findK_mem hnd hmem
      rw [hfj] at hf; cases hf
    | succ k =>
      obtain ⟨b5, o5, c5, hv5, _, hc5⟩ := RdS.some hK.rd (by omega)
      cases hv5
      have hcell := hc5 k _ (intC_get _ k (by omega))
      iterate 2 (refine zc_seq ?_)
      refine zc_region ?_
      refine zl_pureL rfl ?_
      refine z_cmpB (r := true) want_none (by decide) rfl rfl rfl (iff_of_true rfl (by omega)) ?_
      refine zl_nil ?_
      refine zk_seq ?_
      refine zc_true rfl ?_
      refine zc_skip ?_
      refine zk_seq ?_
      refine zc_seq ?_
      refine zc_block ?_
      refine zc_seq ?_
      refine zc_region ?_
      iterate 2 (refine zl_pureL rfl ?_)
      refine z_fa want_none (by decide) rfl ?_
      refine z_loadB want_none (by decide) rfl (by assumption) (by rfl) ?_
      refine zl_pureL rfl ?_
      refine z_ia want_none (by decide) rfl rfl (by omega) (by omega) ?_
      refine z_load1 (by first | exact want_none | exact want_L rfl) (by decide) rfl (cell_at hcell (by omega)) ?_
      by_cases he : (N.getD u n0).kids.getD k 0 = i
      · have hfk : findK (N.getD u n0).kids i (N.getD u n0).kids.length = some k := by
          rw [← hf]; unfold findK; rw [if_pos he]
        have hil := intC_len (N.getD u n0).kids
        refine zl_pureL rfl ?_
        refine z_cmpB (r := true) want_none (by decide) rfl rfl rfl (iff_of_true rfl (by omega)) ?_
        refine zl_nil ?_
        refine zk_seq ?_
        refine zc_true rfl ?_
        refine zc_seq ?_
        refine zc_draw [] (fun w' => Blk w' nb 75 [.int .i64 (N.getD u n0).kind, .int .i64 (N.getD u n0).space, .string (N.getD u n0).name, na, nt, .int .i64 (N.getD u n0).up, .slice (some ⟨bk, 0, none⟩) (N.getD u n0).kids.length ck]) (.take 0 (.take 1 (.take 2 (.take 3 (.take 4 (.take 5 (.take 6 (.take 7 (.take 8 (.take 9 (.take 10 (.take 11 (.take 12 (.all1 13 (.fin))))))))))))))) (by rfl) (by kernel_rfl) (by kernel_rfl) (fun w2 hC2 _ => ⟨?_, ?_⟩)
        · exact hbu.no hC2
        have hK2 := hK.no hC2
        obtain ⟨cells, hB, hfit, hpre, hnew⟩ := hK2.lay (o := k * 1) (vs := (intC (N.getD u n0).kids).drop ((k + 1) * 1)) (by rw [List.length_drop]; omega) (fun x hx => hK2.2 x (List.mem_of_mem_drop hx))
        rw [List.length_drop] at hfit
        have hmin : Nat.min ((N.getD u n0).kids.length - (k + 1)) ((N.getD u n0).kids.length - k) = (N.getD u n0).kids.length - (k + 1) := Nat.min_eq_left (by omega)
        iterate 2 (refine zs_take rfl (zt_pure rfl ?_))
        refine zs_rdL rfl want_none rfl (by decide) (fun _ hS => r_fa rfl) ?_
        refine zs_rdL rfl want_none rfl (by decide) (fun _ hS => r_loadB rfl hS (by rfl)) ?_
        refine zs_take rfl (zt_pure rfl ?_)
        refine zs_rdL rfl (by first | exact want_none | exact want_L rfl) rfl (by decide) (fun _ hS => r_cutFrom (k := k) rfl (optI_eq rfl (by omega)) (by omega) (by omega)) ?_
        iterate 2 (refine zs_take rfl (zt_pure rfl ?_))
        refine zs_rdL rfl want_none rfl (by decide) (fun _ hS => r_fa rfl) ?_
        refine zs_rdL rfl want_none rfl (by decide) (fun _ hS => r_loadB rfl hS (by rfl)) ?_
        refine zs_take rfl (zt_pure rfl ?_)
        refine zs_rdL rfl want_none rfl (by decide) (fun _ hS => r_add rfl rfl (by omega) (by omega)) ?_
        refine zs_rdL rfl (by first | exact want_none | exact want_L rfl) rfl (by decide) (fun _ hS => r_cutFrom (k := k + 1) rfl (optI_eq rfl (by omega)) (by omega) (by omega)) ?_
        skip
        refine zs_copyG (o := k * 1) rfl (by first | exact want_none | exact want_L rfl) (by decide) rfl rfl (hK2.rd.cut (k := k + 1) (by omega)) hB (fun _ => by rw [cutA_at (by omega), Nat.zero_add]) (by rw [hmin]; omega) (fun w3 hU3 => ?_)
        rw [hmin, List.take_of_length_le (by rw [List.length_drop]; omega)] at hU3
        have hK3 := hnew w3 hU3
        have hb3 := (hbu.no hC2).chg hU3.chg (fun he => hbb he.symm)
        refine ⟨hb3, ?_⟩
        refine zs_fin ?_
        refine zk_seq ?_
        refine zc_seq ?_
        refine zc_draw [14] (fun w' => Blk w' nb 75 [.int .i64 (N.getD u n0).kind, .int .i64 (N.getD u n0).space, .string (N.getD u n0).name, na, nt, .int .i64 (N.getD u n0).up, .slice (some ⟨bk, 0, none⟩) (N.getD u n0).kids.length ck]) (.take 0 (.take 1 (.take 2 (.take 3 (.take 4 (.take 5 (.take 6 (.take 7 (.take 8 (.take 9 (.take 10 (.take 11 (.plain 12 (.take 13 (.last 14))))))))))))))) (by rfl) (by kernel_rfl) (by kernel_rfl) (fun w4 hC4 _ => ⟨?_, ?_⟩)
        · exact hb3.no hC4
        have hb4 := hb3.no hC4
        have hK4 := hK3.no hC4
        iterate 3 (refine zs_take rfl (zt_pure rfl ?_))
        refine zs_rdL rfl want_none rfl (by decide) (fun _ hS => r_fa rfl) ?_
        refine zs_rdL rfl want_none rfl (by decide) (fun _ hS => r_loadB rfl hS (by rfl)) ?_
        iterate 2 (refine zs_take rfl (zt_pure rfl ?_))
        refine zs_rdL rfl want_none rfl (by decide) (fun _ hS => r_fa rfl) ?_
        refine zs_rdL rfl want_none rfl (by decide) (fun _ hS => r_loadB rfl hS (by rfl)) ?_
        refine zs_rdL rfl want_none rfl (by decide) (fun _ hS => r_len rfl) ?_
        refine zs_rdL rfl want_none rfl (by decide) (fun _ hS => r_sub rfl rfl (by omega) (by omega)) ?_
        refine zs_rdL rfl (by first | exact want_none | exact want_L rfl) rfl (by decide) (fun _ hS => r_cutTo (k := (N.getD u n0).kids.length - 1) (.inr ⟨_, _, rfl⟩) rfl (optI_eq rfl (by omega)) (by omega)) ?_
        refine zs_plainL rfl rfl ?_
        refine zs_rdL rfl want_none rfl (by decide) (fun _ hS => r_fa rfl) ?_
        refine zs_storeL rfl (by first | exact want_none | exact want_L rfl) rfl rfl rfl (by assumption) (by first | exact Nat.le_refl _ | simp [Value.cells]) (by simp [Value.cells, Value.oneCell']) (fun w5 hU5 => ?_)
        have hK5 := (hK4.take ((N.getD u n0).kids.length - 1) (by omega)).chg hU5.chg (fun q hq he => by
          simp only [Value.ownBlock, Option.some.injEq] at hq
          exact hbb (hq.trans he))
        have ed : delK (N.getD u n0).kids i = (N.getD u n0).kids.take k ++ (N.getD u n0).kids.drop (k + 1) := by unfold delK; rw [hfk]
        have edl : (delK (N.getD u n0).kids i).length = (N.getD u n0).kids.length - 1 := by rw [ed]; simp only [List.length_append, List.length_take, List.length_drop]; omega
        have e5 : (Z.lay (intC (N.getD u n0).kids) (k * 1) ((intC (N.getD u n0).kids).drop ((k + 1) * 1))).take (((N.getD u n0).kids.length - 1) * 1) = intC (delK (N.getD u n0).kids i) := by
          rw [ed, intC_app]
          unfold Z.lay
          have := lay_drop (intC (N.getD u n0).kids) k (by omega)
          rw [List.length_drop, show k * 1 + ((intC (N.getD u n0).kids).length - (k + 1) * 1) = (intC (N.getD u n0).kids).length - 1 by omega, show k * 1 = k by omega, show (k + 1) * 1 = k + 1 by omega, show ((N.getD u n0).kids.length - 1) * 1 = (intC (N.getD u n0).kids).length - 1 by omega, this]
          simp [intC, List.map_take, List.map_drop]
        rw [e5] at hK5
        have hC15 : Chg w1 w5 (fun q => q = nb ∨ q = bk) := ((((hC2.mono (fun _ _ h => h.elim)).trans hU3.chg (fun _ _ h => .inr h)).no hC4).trans hU5.chg (fun _ _ h => .inl h))
        have hbk3 : ∃ cells, Blk w1 bk 3 cells := hK.blk rfl
        obtain ⟨cbk, hbk3⟩ := hbk3
        have hn5 : NodeAt w5 ⟨nb, na, nt, .slice (some ⟨bk, 0, none⟩) ((N.getD u n0).kids.length - 1) ck⟩ { N.getD u n0 with kids := delK (N.getD u n0).kids i } := by
          refine ⟨hU5.blk, ?_, ?_, ?_⟩
          · refine RdS.chg hA hC15 (fun b' cells hb hs => ?_)
            rcases hs with hs | hs
            · exact hb.ne hbu (by decide) hs
            · exact hb.ne hbk3 (by decide) hs
          · refine hT.chg hC15 (fun q hq hs => ?_)
            rcases hs with hs | hs
            · exact hT.ne hq hbu (by decide) hs
            · exact hT.ne hq hbk3 (by decide) hs
          · dsimp only; rw [edl]; exact hK5
        obtain ⟨h5, hW5⟩ := h'.set u hul (q' := ⟨nb, na, nt, .slice (some ⟨bk, 0, none⟩) ((N.getD u n0).kids.length - 1) ck⟩) hC15 (fun q hs => by
          rw [← hqn]
          rcases hs with hs | hs
          · exact .inl hs
          · exact .inr (.inr (by rw [hs]; rfl))) hn5 (by rw [← hqn]) (fun q hq => by rw [← hqn]; exact .inl hq)
        have hi5 : i < (N.set u { N.getD u n0 with kids := delK (N.getD u n0).kids i }).length := by simpa using hi
        obtain ⟨b6, o6, c6, hv6, hp6⟩ := h5.ptr i hi5
        have hblk5 := h5.blk
        rw [hv6] at hblk5
        have hnn := h5.at_ i hi5
        have hqm : ∃ qn, qn = (Q.set u ⟨nb, na, nt, .slice (some ⟨bk, 0, none⟩) ((N.getD u n0).kids.length - 1) ck⟩).getD i q0 := ⟨_, rfl⟩
        obtain ⟨⟨mb, ma, mt, mk⟩, hqm⟩ := hqm
        rw [← hqm] at hnn hp6
        rw [getD_set _ _ _ _ _ hul, if_neg hiu] at hnn
        have hbn := hnn.1
        dsimp only at hbn hp6
        refine zk_seq ?_
        refine zc_exit ?_
        refine zk_exit_block' rfl ?_
        iterate 2 (refine zk_exit_then ?_)
        refine zk_exit_block ?_
        refine zk_seq ?_
        refine zc_seq ?_
        refine zc_region ?_
        iterate 2 (refine zl_pureL rfl ?_)
        refine z_fa want_none (by decide) rfl ?_
        refine z_loadB want_none (by decide) rfl (by assumption) (by rfl) ?_
        refine zl_pureL rfl ?_
        refine z_ia want_none (by decide) rfl rfl (by omega) (by omega) ?_
        refine z_load1 (by first | exact want_none | exact want_L rfl) (by decide) rfl (cell_at hp6 (by omega)) ?_
        refine zl_pureL rfl ?_
        refine z_fa want_none (by decide) rfl ?_
        refine z_store (by first | exact want_none | exact want_L rfl) rfl rfl rfl (by assumption) (by first | exact Nat.le_refl _ | simp [Value.cells]) (by simp [Value.cells, Value.oneCell']) (fun w7 hU7 => ?_)
        have hn7 := NodeAt.put (x' := { N.getD i n0 with up := -1 }) hnn hU7 rfl rfl rfl
        obtain ⟨h7, hW7⟩ := h5.set i hi5 (q' := ⟨mb, ma, mt, mk⟩) hU7.chg (fun k hs => .inl (by rw [hs, ← hqm])) hn7 (by rw [← hqm]) (fun k hk => .inl (by rw [← hqm]; exact hk))
        refine zl_nil ?_
        refine zk_seq ?_
        refine zc_seq ?_
        refine zc_region ?_
        refine zl_pureL rfl ?_
        refine zl_nil ?_
        refine zk_seq ?_
        refine zc_ret ?_
        refine zk_ret1 (.inr rfl) rfl rfl ⟨true, _, _, rfl, h7, (WrD.pre hC1 hW5).trans hW7, fun _ => ⟨rfl, ?_⟩, fun hh => absurd (show TakeOk N i from ⟨h1, by show 0 ≤ (N.getD i n0).up; omega⟩) hh⟩
        simp only [takeN, hu, Int.toNat_natCast]
      · refine zl_pureL rfl ?_
        refine z_cmpB (r := false) want_none (by decide) rfl rfl rfl (iff_of_false Bool.false_ne_true (by omega)) ?_
        refine zl_nil ?_
        refine zk_seq ?_
        refine zc_false rfl ?_
        refine zc_skip ?_
        refine zk_norm_block ?_
        refine zk_seq ?_
        refine zc_region ?_
        refine zl_pureL rfl ?_
        refine z_sub want_none (by decide) rfl rfl (by omega) (by omega) ?_
        refine zl_pureL rfl ?_
        refine zl_nil ?_
        refine zk_loop k ⟨by omega, ?_⟩ (by omega) rfl ⟨rfl, rfl, rfl, get_int rfl (by omega), trivial⟩
        rw [← hf]
        conv => rhs; unfold findK
        rw [if_neg he]
  · rw [decide_eq_false h1]
    iterate 4 (refine zl_pureL rfl ?_)
    iterate 2 (refine zl_skip rfl ?_)
    refine zl_pureL rfl ?_
    iterate 2 (refine zl_skip rfl ?_)
    refine zl_pureL rfl ?_
    iterate 3 (refine zl_skip rfl ?_)
    refine zl_pureL rfl ?_
    refine zl_nil ?_
    refine zk_seq ?_
    refine zc_true rfl ?_
    refine zc_seq ?_
    refine zc_region ?_
    refine zl_pureL rfl ?_
    refine zl_nil ?_
    refine zk_seq ?_
    refine zc_ret ?_
    refine zk_ret_then ?_
    exact zk_ret1 (.inr rfl) rfl rfl (bad (fun hh => h1 hh.1))
end Go.Proofs.Ytjiehalanklapaa.D
