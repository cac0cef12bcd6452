import Derived.Test.YteeibieaapiomaaDDoc7
/- Node, Tree. -/
namespace Go.Proofs.Yteeibieaapiomaa.D
open Go Go.Z Go.Proofs
set_option linter.unusedVariables false
theorem drop_cons {α : Type} (d : α) (l : List α) (k : Nat) (h : k < l.length) : l.drop k = l.getD k d :: l.drop (k + 1) := by
  rw [List.drop_eq_getElem_cons h, List.getD_eq_getElem?_getD, List.getElem?_eq_getElem h]; rfl
def nodeOf (N : List ND) (n : Int) : ND := if isN N n then ndOf N n else n0
def BigT (N : List ND) : Prop := ∀ i, (N.getD i n0).text.length ≤ 1000000000 ∧ (N.getD i n0).attrs.length ≤ 100000
set_option maxHeartbeats 4000000 in
theorem node_calls {w : World} {p : Nat} {vl : Value} {Q : List PN} {N : List ND} (h : IsD w p vl Q N) (hB : BigT N) (n : Int) :
    Calls Try.prog 31 [.pointer (some ⟨p, 0, none⟩), .int .i64 n].toArray w fun e w' => ∃ va, e = .returned (.agg #[.int .i64 (nodeOf N n).kind, .int .i64 (nodeOf N n).space, .string (nodeOf N n).name, va, .string (bs (nodeOf N n).text), .int .i64 0, .slice none 0 0]) ∧ AttrS w' va (nodeOf N n).attrs ∧ NewS w.heap.size va ∧ Chg w w' No := by
  refine calls_zc (n := 41) (f := 31) (fn := Try.f31) Try.func31 rfl rfl (by simp) ?_
  refine zc_seq ?_
  refine zc_region ?_
  refine z_alloc (by first | exact want_none | exact want_L rfl) (by decide) (fun w1 b1 hN1 => ?_)
  have hb1 : Blk w1 b1 52 [.int .i64 0, .int .i64 0, .string ⟨#[]⟩, .slice none 0 0, .string ⟨#[]⟩, .int .i64 0, .slice none 0 0] := hN1.blk
  have h1 := h.no hN1.chg
  have hge := hN1.ge (Chg.refl _ No)
  refine zl_nil ?_
  refine zk_seq ?_
  iterate 2 (refine zc_seq ?_)
  refine zc_region ?_
  iterate 2 (refine zl_pureL rfl ?_)
  refine zl_call (by first | exact want_none | exact want_L rfl) rfl (by decide) rfl (is_calls h1 n) ?_
  rintro _ u ⟨rfl, hu⟩
  obtain rfl := hu.symm
  refine ⟨_, rfl, ?_⟩
  by_cases h0 : isN N n
  · rw [decide_eq_true h0]
    have hx : nodeOf N n = ndOf N n := if_pos h0
    rw [hx]
    obtain ⟨i, rfl⟩ := Int.eq_ofNat_of_zero_le h0.1
    have hi : i < N.length := by have := h0.2; omega
    obtain ⟨b, o, c, hv, hp⟩ := h1.ptr i hi
    have hb := h1.blk
    rw [hv] at hb
    have hnn := h1.at_ i hi
    have hqn : ∃ qn, qn = Q.getD i q0 := ⟨_, rfl⟩
    obtain ⟨⟨nb, na, nt, nk⟩, hqn⟩ := hqn
    rw [← hqn] at hnn hp
    obtain ⟨hn, hA, hT, hK⟩ := hnn
    dsimp only at hn hA hT hK hp
    obtain ⟨hBt, hBa⟩ := hB i
    show ZL _ _ _ _ _ _ _
    obtain ⟨A2, c2, rfl, _⟩ := hA.form
    obtain ⟨A3, c3, rfl, _⟩ := hT.form
    refine zl_pureL rfl ?_
    refine zl_nil ?_
    refine zk_seq ?_
    refine zc_false rfl ?_
    refine zc_skip ?_
    refine zk_seq ?_
    refine zc_seq ?_
    refine zc_region ?_
    iterate 2 (refine zl_pureL rfl ?_)
    refine z_fa want_none (by decide) rfl ?_
    refine z_loadB want_none (by decide) rfl (by assumption) (by rfl) ?_
    refine zl_pureL rfl ?_
    refine z_ia want_none (by decide) rfl rfl (by omega) (by omega) ?_
    refine z_load1 (by first | exact want_none | exact want_L rfl) (by decide) rfl (cell_at hp (by omega)) ?_
    refine zl_pureL rfl ?_
    refine zl_nil ?_
    refine zk_seq ?_
    refine zc_seq ?_
    refine zc_draw [23] (fun w' => Chg w1 w' No ∧ Blk w' nb 80 [.int .i64 (N.getD i n0).kind, .int .i64 (N.getD i n0).space, .string (N.getD i n0).name, .slice A2 (N.getD i n0).attrs.length c2, .slice A3 (N.getD i n0).text.length c3, .int .i64 (N.getD i n0).up, nk] ∧ Blk w' b1 52 [.int .i64 0, .int .i64 0, .string ⟨#[]⟩, .slice none 0 0, .string ⟨#[]⟩, .int .i64 0, .slice none 0 0]) (.take 0 (.take 1 (.take 2 (.take 3 (.take 4 (.take 5 (.take 6 (.take 7 (.take 8 (.take 9 (.take 10 (.take 11 (.take 12 (.take 13 (.take 14 (.take 15 (.take 17 (.take 18 (.take 19 (.take 20 (.all2 16 (.all1 21 (.take 22 (.last 23))) 21 (.all1 16 (.take 22 (.last 23)))))))))))))))))))))))) (by rfl) (by kernel_rfl) (by kernel_rfl) (fun w2 hC2 _ => ⟨?_, ?_⟩)
    · exact ⟨hC2, hn.no hC2, hb1.no hC2⟩
    iterate 2 (refine zs_take rfl (zt_pure rfl ?_))
    refine zs_rdL rfl want_none rfl (by decide) (fun _ hS => r_fa rfl) ?_
    refine zs_rdL rfl want_none rfl (by decide) (fun _ hS => r_loadB rfl hS.2.1 (by rfl)) ?_
    iterate 2 (refine zs_take rfl (zt_pure rfl ?_))
    refine zs_rdL rfl want_none rfl (by decide) (fun _ hS => r_fa rfl) ?_
    refine zs_rdL rfl want_none rfl (by decide) (fun _ hS => r_loadB rfl hS.2.1 (by rfl)) ?_
    iterate 2 (refine zs_take rfl (zt_pure rfl ?_))
    refine zs_rdL rfl want_none rfl (by decide) (fun _ hS => r_fa rfl) ?_
    refine zs_rdL rfl want_none rfl (by decide) (fun _ hS => r_loadB rfl hS.2.1 (by rfl)) ?_
    iterate 2 (refine zs_take rfl (zt_pure rfl ?_))
    refine zs_rdL rfl want_none rfl (by decide) (fun _ hS => r_fa rfl) ?_
    refine zs_rdL rfl want_none rfl (by decide) (fun _ hS => r_loadB rfl hS.2.1 (by rfl)) ?_
    iterate 2 (refine zs_take rfl (zt_pure rfl ?_))
    refine zs_rdL rfl want_none rfl (by decide) (fun _ hS => r_fa rfl) ?_
    refine zs_rdL rfl want_none rfl (by decide) (fun _ hS => r_loadB rfl hS.2.1 (by rfl)) ?_
    refine zs_two ?_ ?_
    · refine zo_call rfl (by first | exact want_none | exact want_L rfl) rfl (by decide) rfl (copied_calls (hA.no hC2) hBa) ?_
      rintro _ w3 ⟨va, rfl, ha3, hn3, hC3⟩
      have hC3 := hC2.no hC3
      obtain ⟨A4, c4, rfl, _⟩ := ha3.form
      refine ⟨_, rfl, ⟨hC3, hn.no hC3, hb1.no hC3⟩, ?_⟩
      skip
      refine zs_run rfl (by first | exact want_none | exact want_L rfl) rfl (by decide) (r_convBS rfl (hT.no hC3).rb) ⟨hC3, hn.no hC3, hb1.no hC3⟩ ?_
      skip
      refine zs_rdL rfl (by first | exact want_none | exact want_L rfl) rfl (by decide) (fun _ hS => r_build' (cells := #[.int .i64 (N.getD i n0).kind, .int .i64 (N.getD i n0).space, .string (N.getD i n0).name, .slice A4 (N.getD i n0).attrs.length c4, .string (bs (N.getD i n0).text), .int .i64 0, .slice none 0 0]) rfl (by kernel_rfl)) ?_
      have hb3 := hb1.no hC3
      refine zs_storeL rfl (by first | exact want_none | exact want_L rfl) rfl rfl rfl (by assumption) (by first | exact Nat.le_refl _ | simp [Value.cells]) (by simp [Value.cells, Value.oneCell']) (fun w4 hU4 => ?_)
      have hb4 : Blk w4 b1 52 [.int .i64 (N.getD i n0).kind, .int .i64 (N.getD i n0).space, .string (N.getD i n0).name, .slice A4 (N.getD i n0).attrs.length c4, .string (bs (N.getD i n0).text), .int .i64 0, .slice none 0 0] := hU4.blk
      have hs := hN1.size
      have hlt := hb3.lt
      refine zk_seq ?_
      refine zc_ret ?_
      refine zk_retC (.inr rfl) rfl rfl hb4 rfl ⟨_, rfl, RdS.chg ha3 hU4.chg (fun b cells hb he => hb.ne hb3 (by decide) he), fun k hk => ?_, (hN1.chg.no hC3).upd hU4 hge⟩
      have := hn3 k hk; have := hC2.size; omega
    · refine zo_run rfl (by first | exact want_none | exact want_L rfl) rfl (by decide) (r_convBS rfl (hT.no hC2).rb) ⟨hC2, hn.no hC2, hb1.no hC2⟩ ?_
      skip
      refine zs_call rfl (by first | exact want_none | exact want_L rfl) rfl (by decide) rfl (copied_calls (hA.no hC2) hBa) ?_
      rintro _ w3 ⟨va, rfl, ha3, hn3, hC3⟩
      have hC3 := hC2.no hC3
      obtain ⟨A4, c4, rfl, _⟩ := ha3.form
      refine ⟨_, rfl, ⟨hC3, hn.no hC3, hb1.no hC3⟩, ?_⟩
      skip
      refine zs_rdL rfl (by first | exact want_none | exact want_L rfl) rfl (by decide) (fun _ hS => r_build' (cells := #[.int .i64 (N.getD i n0).kind, .int .i64 (N.getD i n0).space, .string (N.getD i n0).name, .slice A4 (N.getD i n0).attrs.length c4, .string (bs (N.getD i n0).text), .int .i64 0, .slice none 0 0]) rfl (by kernel_rfl)) ?_
      have hb3 := hb1.no hC3
      refine zs_storeL rfl (by first | exact want_none | exact want_L rfl) rfl rfl rfl (by assumption) (by first | exact Nat.le_refl _ | simp [Value.cells]) (by simp [Value.cells, Value.oneCell']) (fun w4 hU4 => ?_)
      have hb4 : Blk w4 b1 52 [.int .i64 (N.getD i n0).kind, .int .i64 (N.getD i n0).space, .string (N.getD i n0).name, .slice A4 (N.getD i n0).attrs.length c4, .string (bs (N.getD i n0).text), .int .i64 0, .slice none 0 0] := hU4.blk
      have hs := hN1.size
      have hlt := hb3.lt
      refine zk_seq ?_
      refine zc_ret ?_
      refine zk_retC (.inr rfl) rfl rfl hb4 rfl ⟨_, rfl, RdS.chg ha3 hU4.chg (fun b cells hb he => hb.ne hb3 (by decide) he), fun k hk => ?_, (hN1.chg.no hC3).upd hU4 hge⟩
      have := hn3 k hk; have := hC2.size; omega
  · rw [decide_eq_false h0]
    have hx : nodeOf N n = n0 := if_neg h0
    rw [hx]
    refine zl_pureL rfl ?_
    refine zl_nil ?_
    refine zk_seq ?_
    refine zc_true rfl ?_
    refine zc_seq ?_
    refine zc_region ?_
    refine z_buildE #[.int .i64 0, .int .i64 0, .string ⟨#[]⟩, .slice none 0 0, .string ⟨#[]⟩, .int .i64 0, .slice none 0 0] (by first | exact want_none | exact want_L rfl) (by decide) rfl (by kernel_rfl) ?_
    refine z_store (by first | exact want_none | exact want_L rfl) rfl rfl rfl (by assumption) (by first | exact Nat.le_refl _ | simp [Value.cells]) (by simp [Value.cells, Value.oneCell']) (fun w2 hU2 => ?_)
    have hb2 : Blk w2 b1 52 [.int .i64 0, .int .i64 0, .string ⟨#[]⟩, .slice none 0 0, .string ⟨#[]⟩, .int .i64 0, .slice none 0 0] := hU2.blk
    refine zl_nil ?_
    refine zk_seq ?_
    refine zc_ret ?_
    refine zk_ret_then ?_
    exact zk_retC (.inr rfl) rfl rfl hb2 rfl ⟨.slice none 0 0, rfl, AttrS.nil _, (fun k hk => by cases hk), hN1.chg.upd hU2 hge⟩
set_option maxHeartbeats 8000000 in
theorem tree_calls {N : List ND} (hW : WF N) (hl : N.length ≤ 100000) (hB : BigT N) : ∀ (f : Nat) {w : World} {p : Nat} {vl : Value} {Q : List PN} (h : IsD w p vl Q N) (n : Nat) (hn : n < N.length) (t : NT), TF N (N.getD n n0).kids t → t.size ≤ f →
    Calls Try.prog 39 [.pointer (some ⟨p, 0, none⟩), .int .i64 n].toArray w fun e w' => ∃ vo, e = .returned vo ∧ TreeOk w' (fun b => w.heap.size ≤ b) (fun b => w.heap.size ≤ b) vo t ∧ Chg w w' No := by
  intro f
  induction f with
  | zero =>
    intro w p vl Q h n hn t ht hf
    have hk0 : (N.getD n n0).kids.length = 0 := by rw [← ht.len]; have := t.len_size; omega
    have ht0 : t = .nil := by cases t with
      | nil => rfl
      | cons x k r => simp [NT.size] at hf
    subst ht0
    obtain ⟨b, o, c, hv, hp⟩ := h.ptr n hn
    have hb := h.blk
    rw [hv] at hb
    obtain ⟨hnb, _, _, hK⟩ := h.at_ n hn
    obtain ⟨A2, c2, hv2, _⟩ := hK.rd.form
    rw [hv2] at hnb
    refine calls_zc (n := 49) (f := 39) (fn := Try.f39) Try.func39 rfl rfl (by simp) ?_
    refine zc_seq ?_
    refine zc_region ?_
    refine zl_pureL rfl ?_
    refine zl_nil ?_
    refine zk_seq ?_
    iterate 2 (refine zc_seq ?_)
    refine zc_region ?_
    iterate 2 (refine zl_pureL rfl ?_)
    refine zl_call (by first | exact want_none | exact want_L rfl) rfl (by decide) rfl (is_calls h n) ?_
    rintro _ u ⟨rfl, hu⟩
    obtain rfl := hu.symm
    refine ⟨_, rfl, ?_⟩
    rw [decide_eq_true (show isN N n from ⟨by omega, by omega⟩)]
    refine zl_pureL rfl ?_
    refine zl_nil ?_
    refine zk_seq ?_
    refine zc_false rfl ?_
    refine zc_skip ?_
    refine zk_seq ?_
    refine zc_seq ?_
    refine zc_region ?_
    iterate 2 (refine zl_pureL rfl ?_)
    refine z_fa want_none (by decide) rfl ?_
    refine z_loadB want_none (by decide) rfl (by assumption) (by rfl) ?_
    refine zl_pureL rfl ?_
    refine z_ia want_none (by decide) rfl rfl (by omega) (by omega) ?_
    refine z_load1 (by first | exact want_none | exact want_L rfl) (by decide) rfl (cell_at hp (by omega)) ?_
    refine zl_pureL rfl ?_
    refine z_fa want_none (by decide) rfl ?_
    refine z_loadB want_none (by decide) rfl (by assumption) (by rfl) ?_
    refine zl_pureL rfl ?_
    refine zl_nil ?_
    refine zk_seq ?_
    iterate 2 (refine zc_seq ?_)
    refine zc_region ?_
    refine zl_pureL rfl ?_
    refine z_len want_none (by decide) rfl ?_
    refine z_cmpB (r := true) want_none (by decide) rfl rfl rfl (iff_of_true rfl (by omega)) ?_
    refine zl_nil ?_
    refine zk_seq ?_
    refine zc_true rfl ?_
    refine zc_seq ?_
    refine zc_region ?_
    refine zl_pureL rfl ?_
    refine zl_nil ?_
    refine zk_seq ?_
    refine zc_ret ?_
    refine zk_ret_then ?_
    exact zk_ret1 (.inr rfl) rfl rfl ⟨_, rfl, TreeOk.nil, Chg.refl _ _⟩
  | succ f ih =>
    intro w p vl Q h n hn t ht hf
    have htl := ht.len
    have hkl := hW.kids_len hn
    obtain ⟨b, o, c, hv, hp⟩ := h.ptr n hn
    have hb := h.blk
    rw [hv] at hb
    obtain ⟨hnb, _, _, hK⟩ := h.at_ n hn
    obtain ⟨A2, c2, hv2, _⟩ := hK.rd.form
    rw [hv2] at hnb
    refine calls_zc (n := 49) (f := 39) (fn := Try.f39) Try.func39 rfl rfl (by simp) ?_
    refine zc_seq ?_
    refine zc_region ?_
    refine zl_pureL rfl ?_
    refine zl_nil ?_
    refine zk_seq ?_
    iterate 2 (refine zc_seq ?_)
    refine zc_region ?_
    iterate 2 (refine zl_pureL rfl ?_)
    refine zl_call (by first | exact want_none | exact want_L rfl) rfl (by decide) rfl (is_calls h n) ?_
    rintro _ u ⟨rfl, hu⟩
    obtain rfl := hu.symm
    refine ⟨_, rfl, ?_⟩
    rw [decide_eq_true (show isN N n from ⟨by omega, by omega⟩)]
    refine zl_pureL rfl ?_
    refine zl_nil ?_
    refine zk_seq ?_
    refine zc_false rfl ?_
    refine zc_skip ?_
    refine zk_seq ?_
    refine zc_seq ?_
    refine zc_region ?_
    iterate 2 (refine zl_pureL rfl ?_)
    refine z_fa want_none (by decide) rfl ?_
    refine z_loadB want_none (by decide) rfl (by assumption) (by rfl) ?_
    refine zl_pureL rfl ?_
    refine z_ia want_none (by decide) rfl rfl (by omega) (by omega) ?_
    refine z_load1 (by first | exact want_none | exact want_L rfl) (by decide) rfl (cell_at hp (by omega)) ?_
    by_cases h0 : (N.getD n n0).kids.length = 0
    · have ht0 := len0 (htl.trans h0)
      subst ht0
      refine zl_pureL rfl ?_
      refine z_fa want_none (by decide) rfl ?_
      refine z_loadB want_none (by decide) rfl (by assumption) (by rfl) ?_
      refine zl_pureL rfl ?_
      refine zl_nil ?_
      refine zk_seq ?_
      iterate 2 (refine zc_seq ?_)
      refine zc_region ?_
      refine zl_pureL rfl ?_
      refine z_len want_none (by decide) rfl ?_
      refine z_cmpB (r := true) want_none (by decide) rfl rfl rfl (iff_of_true rfl (by omega)) ?_
      refine zl_nil ?_
      refine zk_seq ?_
      refine zc_true rfl ?_
      refine zc_seq ?_
      refine zc_region ?_
      refine zl_pureL rfl ?_
      refine zl_nil ?_
      refine zk_seq ?_
      refine zc_ret ?_
      refine zk_ret_then ?_
      exact zk_ret1 (.inr rfl) rfl rfl ⟨_, rfl, TreeOk.nil, Chg.refl _ _⟩
    refine zl_pureL rfl ?_
    refine z_fa want_none (by decide) rfl ?_
    refine z_loadB want_none (by decide) rfl (by assumption) (by rfl) ?_
    refine zl_pureL rfl ?_
    refine zl_nil ?_
    refine zk_seq ?_
    iterate 2 (refine zc_seq ?_)
    refine zc_region ?_
    refine zl_pureL rfl ?_
    refine z_len want_none (by decide) rfl ?_
    refine z_cmpB (r := false) want_none (by decide) rfl rfl rfl (iff_of_false Bool.false_ne_true (by omega)) ?_
    refine zl_nil ?_
    refine zk_seq ?_
    refine zc_false rfl ?_
    refine zc_skip ?_
    refine zk_seq ?_
    refine zc_seq ?_
    refine zc_region ?_
    refine zl_pureL rfl ?_
    refine z_len want_none (by decide) rfl ?_
    refine z_make (by first | exact want_none | exact want_L rfl) (by decide) rfl rfl (Nat.zero_le _) (by omega) (by omega) (fun w1 b1 hN1 => ?_)
    have hO1 : Own w1 52 7 _ 0 [] := Own.made hN1 (by unfold maxLen; omega)
    have hOut1 : Out w.heap.size (fun b => w.heap.size ≤ b) w1 (.slice (some ⟨b1, 0, none⟩) 0 (N.getD n n0).kids.length) .nil := ⟨[], hO1, (fun k hk => by simp [Value.ownBlock] at hk; subst hk; exact hN1.ge (Chg.refl _ No)), rfl⟩
    refine zl_pureL rfl ?_
    refine zl_nil ?_
    refine zk_seq ?_
    iterate 2 (refine zc_seq ?_)
    refine zc_region ?_
    refine zl_pureL rfl ?_
    refine z_len want_none (by decide) rfl ?_
    refine zl_pureL rfl ?_
    refine zl_nil ?_
    refine zk_seq ?_
    refine zc_block ?_
    refine zc_loopW (ι := Nat × Value × NT) (fun q u => [(0, .pointer (some ⟨p, 0, none⟩)), (6, q.2.1), (30, .slice A2 (N.getD n n0).kids.length c2), (31, .int .i64 (N.getD n n0).kids.length), (32, .int .i64 q.1)])
      (fun q u => q.1 ≤ t.len ∧ Out w.heap.size (fun b => w.heap.size ≤ b) u q.2.1 q.2.2 ∧ q.2.2.len = q.1 ∧ q.2.2.app (t.dropN q.1) = t ∧ Chg w u No) (fun q u => t.len - q.1) (0, .slice (some ⟨b1, 0, none⟩) 0 (N.getD n n0).kids.length, .nil)
      ⟨Nat.zero_le _, hOut1, rfl, rfl, hN1.chg⟩ ?_ ?_
    · exact ⟨rfl, rfl, rfl, rfl, rfl, trivial⟩
    rintro ⟨i, vo, T⟩ u ⟨hi, hOut, hTl, hd, hC⟩
    dsimp only at hi hOut hTl hd ⊢
    by_cases hlt : i < t.len
    · obtain ⟨bk, ok, ck, hvk, _, hck⟩ := RdS.some hK.rd (by omega)
      rw [hv2] at hvk
      cases hvk
      have hcell := cell_no hC (hck i _ (intC_get _ i (by omega)))
      have hik : i < (N.getD n n0).kids.length := by omega
      have hdr := ht.drop i
      have hdc : (N.getD n n0).kids.drop i = (N.getD n n0).kids.getD i 0 :: (N.getD n n0).kids.drop (i + 1) := drop_cons 0 _ _ hik
      rw [hdc] at hdr
      have hkn : (N.getD n n0).kids.getD i 0 < N.length := ((hW.kid n _ hn).1 (getD_mem hik)).1
      have hnx : ∃ nk, nk = (N.getD n n0).kids.getD i 0 := ⟨_, rfl⟩
      obtain ⟨nk, hnke⟩ := hnx
      rw [← hnke] at hcell hdr hkn
      have hsz := t.drop_size i
      have e1 : ∃ tk tr, t.dropN i = .cons (hdOf (N.getD nk n0)) tk tr ∧ TF N (N.getD nk n0).kids tk := by
        generalize t.dropN i = s at hdr
        cases hdr with
        | cons _ _ tk tr h1 h2 => exact ⟨tk, tr, rfl, h1⟩
      obtain ⟨tk, tr, e1, htk⟩ := e1
      rw [e1] at hsz
      simp only [NT.size] at hsz
      have hnd : nodeOf N (nk : Nat) = N.getD nk n0 := if_pos ⟨by omega, by omega⟩
      refine zc_seq ?_
      refine zc_region ?_
      refine z_cmpB (r := true) want_none (by decide) rfl rfl rfl (iff_of_true rfl (by omega)) ?_
      refine zl_nil ?_
      refine zk_seq ?_
      refine zc_seq ?_
      refine zc_true rfl ?_
      refine zc_skip ?_
      refine zk_seq ?_
      refine zc_seq ?_
      refine zc_block ?_
      refine zc_seq ?_
      refine zc_region ?_
      refine z_ia want_none (by decide) rfl rfl (by omega) (by omega) ?_
      refine z_load1 (by first | exact want_none | exact want_L rfl) (by decide) rfl (cell_at hcell (by omega)) ?_
      refine zl_pureL rfl ?_
      refine zl_nil ?_
      refine zk_seq ?_
      refine zc_seq ?_
      refine zc_region ?_
      iterate 2 (refine zl_pureL rfl ?_)
      refine zl_call (by first | exact want_none | exact want_L rfl) rfl (by decide) rfl (node_calls (h.no hC) hB (nk : Nat)) ?_
      rintro _ u1 ⟨va, rfl, ha1, hn1, hC1⟩
      rw [hnd] at ha1 ⊢
      refine ⟨_, rfl, ?_⟩
      obtain ⟨A4, c4, rfl, _⟩ := ha1.form
      skip
      refine z_alloc (by first | exact want_none | exact want_L rfl) (by decide) (fun u2 b2 hN2 => ?_)
      have hb2 : Blk u2 b2 52 [.int .i64 0, .int .i64 0, .string ⟨#[]⟩, .slice none 0 0, .string ⟨#[]⟩, .int .i64 0, .slice none 0 0] := hN2.blk
      skip
      refine z_store (by first | exact want_none | exact want_L rfl) rfl rfl rfl (by assumption) (by first | exact Nat.le_refl _ | simp [Value.cells]) (by simp [Value.cells, Value.oneCell']) (fun u3 hU3 => ?_)
      have hb3 : Blk u3 b2 52 [.int .i64 (N.getD nk n0).kind, .int .i64 (N.getD nk n0).space, .string (N.getD nk n0).name, .slice A4 (N.getD nk n0).attrs.length c4, .string (bs (N.getD nk n0).text), .int .i64 0, .slice none 0 0] := hU3.blk
      have hC3 : Chg u u3 No := (hC1.new hN2).upd hU3 (hN2.ge hC1)
      have ha3 : AttrS u3 (.slice A4 (N.getD nk n0).attrs.length c4) (N.getD nk n0).attrs := RdS.upd (ha1.no hN2.chg) hU3 (by decide)
      refine zl_nil ?_
      refine zk_seq ?_
      refine zc_seq ?_
      refine zc_region ?_
      iterate 2 (refine zl_pureL rfl ?_)
      refine zl_call (by first | exact want_none | exact want_L rfl) rfl (by decide) rfl (ih (h.no (hC.no hC3)) nk hkn tk htk (by omega)) ?_
      rintro _ u4 ⟨v4, rfl, hT4, hC4⟩
      refine ⟨_, rfl, ?_⟩
      obtain ⟨A5, c5, rfl, _⟩ := hT4.at'.form
      have hb4 := hb3.no hC4
      have hge2 := hN2.ge hC1
      have hs3 := hC3.size
      have hs4 := hC4.size
      have hlt2 := hb3.lt
      refine z_fa want_none (by decide) rfl ?_
      refine z_store (by first | exact want_none | exact want_L rfl) rfl rfl rfl (by assumption) (by first | exact Nat.le_refl _ | simp [Value.cells]) (by simp [Value.cells, Value.oneCell']) (fun u5 hU5 => ?_)
      have hb5 : Blk u5 b2 52 [.int .i64 (N.getD nk n0).kind, .int .i64 (N.getD nk n0).space, .string (N.getD nk n0).name, .slice A4 (N.getD nk n0).attrs.length c4, .string (bs (N.getD nk n0).text), .int .i64 0, .slice A5 tk.len c5] := hU5.blk
      have hC5 : Chg u u5 No := (hC3.no hC4).upd hU5 hge2
      have hT5 := hT4.chg hU5.chg (fun b _ _ hk he => by omega) (fun b cells hk _ he => hk.ne hb4 (by decide) he)
      have ha5 : AttrS u5 (.slice A4 (N.getD nk n0).attrs.length c4) (N.getD nk n0).attrs := RdS.upd (ha3.no hC4) hU5 (by decide)
      have hOut5 := hOut.no hC5
      have hvlt : ∀ k, vo.ownBlock = some k → k < u.heap.size := fun k hk => by obtain ⟨ms, g1, _, _⟩ := hOut; exact g1.lt hk
      obtain ⟨A0, c0, hv0, hc0⟩ := hOut.form
      obtain ⟨ms, g1, g2, g3⟩ := hOut5
      have hml := Rows.len _ ms (RowsOk.rows _ ms g3)
      have hBu : w.heap.size ≤ u.heap.size := hC.size
      refine zl_nil ?_
      refine zk_seq ?_
      refine zc_region ?_
      refine zl_pureL rfl ?_
      refine z_loadAB want_none (by decide) rfl (by assumption) (by rfl) ?_
      refine z_bs1 (by first | exact want_none | exact want_L rfl) (by decide) rfl (by rfl) (by rfl) (by decide) (by decide) (fun u10 b10 hN10 => ?_)
      have hx9 : HR u5 ⟨(N.getD nk n0).kind, (N.getD nk n0).space, (N.getD nk n0).name, .slice A4 (N.getD nk n0).attrs.length c4, bs (N.getD nk n0).text, 0, .slice A5 tk.len c5⟩ (hdOf (N.getD nk n0)) := ⟨rfl, rfl, rfl, ha5, rfl, rfl⟩
      have hR : RdS u10 52 7 (.slice (some ⟨b10, 0, none⟩) 1 1) 1 (encN [⟨(N.getD nk n0).kind, (N.getD nk n0).space, (N.getD nk n0).name, .slice A4 (N.getD nk n0).attrs.length c4, bs (N.getD nk n0).text, 0, .slice A5 tk.len c5⟩]) := by
        obtain ⟨ks, h1, _, _⟩ := hT5
        exact RdS.node hx9 h1 hN10
      refine z_appendO (by rfl) (by decide) (by first | exact want_none | exact want_L rfl) (by decide) rfl rfl (g1.no hN10.chg) hR (by omega) (by omega) (fun v11 u11 hO11 hC11 hr11 => ?_)
      have hOut11 := Out.push g1 g2 g3 hx9 (by intro hl b hb; have := hn1 b (by simpa [Value.ownBlock] using hb); omega)
        (hT5.mono (fun b hb hk => ⟨by omega, fun he => by have := hvlt b he; omega⟩) (fun b hb hk => by omega)) (Nat.le_trans hBu hC5.size) hN10.chg hO11 hC11 hr11
      refine zl_pureL rfl ?_
      refine zl_nil ?_
      refine zk_norm_block ?_
      refine zk_seq ?_
      refine zc_region ?_
      refine z_add want_none (by decide) rfl rfl (by omega) (by omega) ?_
      refine zl_pureL rfl ?_
      refine zl_nil ?_
      refine zk_loopW (i + 1, v11, T.snoc (hdOf (N.getD nk n0)) tk) ⟨by omega, hOut11, by rw [NT.snoc_len, hTl], ?_, ?_⟩ (by show t.len - (i + 1) < t.len - i; omega) ⟨rfl, rfl, rfl, rfl, get_int rfl (by simp), trivial⟩
      · dsimp only
        rw [t.drop_succ i _ tk tr e1, NT.snoc_app, ← e1]; exact hd
      · refine ((hC.trans hC5 (fun _ _ h => h)).no hN10.chg).trans hC11 (fun i hi he => ?_)
        have := g2 i he; omega
    · obtain rfl : i = t.len := by omega
      rw [t.drop_len, NT.app_nil] at hd
      subst hd
      refine zc_seq ?_
      refine zc_region ?_
      refine z_cmpB (r := false) want_none (by decide) rfl rfl rfl (iff_of_false Bool.false_ne_true (by omega)) ?_
      refine zl_nil ?_
      refine zk_seq ?_
      refine zc_seq ?_
      refine zc_false rfl ?_
      refine zc_exit ?_
      iterate 2 (refine zk_exit_then ?_)
      refine zk_exit_block ?_
      refine zk_seq ?_
      refine zc_seq ?_
      refine zc_region ?_
      iterate 2 (refine zl_pureL rfl ?_)
      refine zl_nil ?_
      refine zk_seq ?_
      refine zc_ret ?_
      exact zk_ret1 (.inr rfl) rfl rfl ⟨_, rfl, hOut.tree, hC⟩
end Go.Proofs.Yteeibieaapiomaa.D
