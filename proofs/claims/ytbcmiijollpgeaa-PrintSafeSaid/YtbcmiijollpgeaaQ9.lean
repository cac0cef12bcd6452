import Derived.Test.YtbcmiijollpgeaaQ8
/- Addresses of the document: a row of addresses with their sizes. -/
namespace Go.Proofs.Ytbcmiijollpgeaa.T
open Go Go.Z Go.Proofs
set_option linter.unusedVariables false
/-- a row of addresses with their sizes -/
structure Cnd (B : Nat) (w : World) (v : Value) (ls : List At) (m : Nat) : Prop where
  own : Own w 98 2 v ls.length (encA ls)
  ge : ∀ k, v.ownBlock = some k → B ≤ k
  le : ∀ x ∈ ls, 0 < x.1.length ∧ x.1.length ≤ m ∧ x.2.length ≤ m
theorem Cnd.nil {B m : Nat} {w : World} : Cnd B w (.slice none 0 0) [] m := ⟨Own.nil, (fun k hk => by cases hk), (fun x hx => by cases hx)⟩
theorem Cnd.no {B m : Nat} {w w' : World} {v : Value} {ls : List At} (h : Cnd B w v ls m) (hc : Chg w w' No) : Cnd B w' v ls m := ⟨h.own.no hc, h.ge, h.le⟩
theorem Cnd.form {B m : Nat} {w : World} {v : Value} {ls : List At} (h : Cnd B w v ls m) : ∃ A c, v = .slice A ls.length c ∧ ls.length ≤ c := h.own.rd.form
theorem Cnd.cells {B m : Nat} {w : World} {v : Value} {ls : List At} (h : Cnd B w v ls m) (hp : 0 < ls.length) : ∃ b o c, v = .slice (some ⟨b, o, none⟩) ls.length c ∧ ls.length ≤ c ∧ ∀ j, j < ls.length → w.cell? ⟨b, o + j * 2, none⟩ = some (.string (bs (ls.getD j at0).1)) ∧ w.cell? ⟨b, o + j * 2 + 1, none⟩ = some (.string (bs (ls.getD j at0).2)) ∧ 0 < (ls.getD j at0).1.length ∧ (ls.getD j at0).1.length ≤ m ∧ (ls.getD j at0).2.length ≤ m := by
  obtain ⟨b, o, c, hv, hc, hcc⟩ := RdS.some h.own.rd hp
  refine ⟨b, o, c, hv, hc, fun j hj => ?_⟩
  obtain ⟨e1, e2⟩ := encA_get ls j hj
  have hm : ls.getD j at0 ∈ ls := by
    rw [List.getD_eq_getElem?_getD, List.getElem?_eq_getElem hj]; exact List.getElem_mem hj
  exact ⟨hcc _ _ e1, by have := hcc _ _ e2; rwa [← Nat.add_assoc] at this, h.le _ hm⟩
set_option maxRecDepth 100000 in
set_option maxHeartbeats 16000000 in
theorem set_calls {w : World} (l : List UInt8) (hl : l.length ≤ 300) : Calls Try.prog 64 [.string (bs l)].toArray w fun e w' => (∃ v ls, e = .returned v ∧ Cnd w.heap.size w' v ls 300 ∧ ls.length ≤ 300) ∧ Chg w w' No := by
  have hbig : big = 1000000000000 := rfl
  refine calls_zc (n := 93) (f := 64) (fn := Try.f64) Try.func64 rfl rfl (by simp) ?_
  refine zc_seq ?_
  refine zc_region ?_
  refine zl_pureL rfl ?_
  refine zl_nil ?_
  refine zk_seq ?_
  refine zc_seq ?_
  refine zc_region ?_
  refine zl_pureL rfl ?_
  refine zl_nil ?_
  refine zk_seq ?_
  refine zc_seq ?_
  refine zc_region ?_
  refine zl_pureL rfl ?_
  refine zl_nil ?_
  refine zk_seq ?_
  refine zc_block ?_
  refine zc_loopW (ι := Nat × Value × List At) (fun q u => [(0, .string (bs l)), (3, q.2.1), (4, .int .i64 (q.1 : Nat))]) (fun q u => q.1 ≤ l.length ∧ q.2.2.length ≤ q.1 ∧ Cnd w.heap.size u q.2.1 q.2.2 300 ∧ Chg w u No) (fun q u => l.length - q.1) (0, .slice none 0 0, []) ⟨Nat.zero_le _, Nat.le_refl _, Cnd.nil, Chg.refl _ _⟩ ⟨rfl, rfl, rfl, trivial⟩ ?_
  rintro ⟨a0, v, ls⟩ u ⟨ha0, hls, hR, hC⟩
  dsimp only at ha0 hls hR ⊢
  refine zc_block ?_
  refine zc_seq ?_
  refine zc_block ?_
  refine zc_midBX (ι := Nat) (fun k u' => a0 ≤ k ∧ k ≤ l.length ∧ (k < l.length → blankN (Z.byteL l k) = false ∧ Z.byteL l k ≠ 44) ∧ u' = u) (fun k => [(0, .string (bs l)), (3, v), (4, .int .i64 (k : Nat))]) ?_ ?_
  · refine zc_loopW (ι := Nat) (fun i u' => [(0, .string (bs l)), (3, v), (4, .int .i64 (i : Nat))]) (fun i u' => a0 ≤ i ∧ i ≤ l.length ∧ u' = u) (fun i u' => l.length - i) a0 ⟨Nat.le_refl _, ha0, rfl⟩ ⟨rfl, rfl, rfl, trivial⟩ ?_
    rintro i u' ⟨hai, hi, hu'⟩
    obtain rfl := hu'.symm
    by_cases hlt : i < l.length
    · iterate 2 (refine zc_seq ?_)
      refine zc_region ?_
      iterate 2 (refine zl_pureL rfl ?_)
      refine z_lenL want_none (by decide) rfl ?_
      refine z_cmpB (r := true) want_none (by decide) rfl rfl rfl (iff_of_true rfl (by omega)) ?_
      iterate 3 (refine zl_pureL rfl ?_)
      refine z_idxN (want_L rfl) (by decide) rfl rfl (by omega) ?_
      refine zl_call (by first | exact want_none | exact want_L rfl) rfl (by decide) rfl (blankR_calls (Z.byteL l i)) ?_
      rintro _ v2 ⟨rfl, hv⟩
      obtain rfl := hv.symm
      refine ⟨_, rfl, ?_⟩
      cases hb : blankN (Z.byteL l i)
      · by_cases h44 : Z.byteL l i = 44
        · iterate 3 (refine zl_pureL rfl ?_)
          refine z_idxN (want_L rfl) (by decide) rfl rfl (by omega) ?_
          refine z_cmpB (r := true) (want_L rfl) (by decide) rfl rfl rfl (iff_of_true rfl (by omega)) ?_
          iterate 2 (refine zl_pureL rfl ?_)
          refine zl_nil ?_
          refine zk_seq ?_
          refine zc_true rfl ?_
          refine zc_skip ?_
          refine zk_seq ?_
          refine zc_block ?_
          refine zc_region ?_
          refine zl_pureL rfl ?_
          refine z_add want_none (by decide) rfl rfl (by omega) (by omega) ?_
          refine zl_pureL rfl ?_
          refine zl_nil ?_
          refine zk_norm_block ?_
          exact zk_loopW (i + 1) ⟨by omega, by omega, rfl⟩ (by omega) ⟨rfl, rfl, get_int rfl (by omega), trivial⟩
        · iterate 3 (refine zl_pureL rfl ?_)
          refine z_idxN (want_L rfl) (by decide) rfl rfl (by omega) ?_
          refine z_cmpB (r := false) (want_L rfl) (by decide) rfl rfl rfl (iff_of_false Bool.false_ne_true (by omega)) ?_
          iterate 2 (refine zl_pureL rfl ?_)
          refine zl_nil ?_
          refine zk_seq ?_
          refine zc_false rfl ?_
          refine zc_exit ?_
          iterate 2 (refine zk_exit_then ?_)
          refine zk_exit_block ?_
          exact zk_midX i ⟨hai, hi, fun _ => ⟨hb, h44⟩, rfl⟩ ⟨rfl, rfl, rfl, trivial⟩
      · iterate 3 (refine zl_pureL rfl ?_)
        iterate 2 (refine zl_skip rfl ?_)
        iterate 2 (refine zl_pureL rfl ?_)
        refine zl_nil ?_
        refine zk_seq ?_
        refine zc_true rfl ?_
        refine zc_skip ?_
        refine zk_seq ?_
        refine zc_block ?_
        refine zc_region ?_
        refine zl_pureL rfl ?_
        refine z_add want_none (by decide) rfl rfl (by omega) (by omega) ?_
        refine zl_pureL rfl ?_
        refine zl_nil ?_
        refine zk_norm_block ?_
        exact zk_loopW (i + 1) ⟨by omega, by omega, rfl⟩ (by omega) ⟨rfl, rfl, get_int rfl (by omega), trivial⟩
    · iterate 2 (refine zc_seq ?_)
      refine zc_region ?_
      iterate 2 (refine zl_pureL rfl ?_)
      refine z_lenL want_none (by decide) rfl ?_
      refine z_cmpB (r := false) want_none (by decide) rfl rfl rfl (iff_of_false Bool.false_ne_true (by omega)) ?_
      iterate 3 (refine zl_pureL rfl ?_)
      iterate 2 (refine zl_skip rfl ?_)
      iterate 3 (refine zl_pureL rfl ?_)
      iterate 2 (refine zl_skip rfl ?_)
      iterate 2 (refine zl_pureL rfl ?_)
      refine zl_nil ?_
      refine zk_seq ?_
      refine zc_false rfl ?_
      refine zc_exit ?_
      iterate 2 (refine zk_exit_then ?_)
      refine zk_exit_block ?_
      exact zk_midX i ⟨hai, hi, fun h => absurd h hlt, rfl⟩ ⟨rfl, rfl, rfl, trivial⟩
  rintro k u' ⟨hak, hk, hkb, hu'⟩
  obtain rfl := hu'.symm
  by_cases hkl : k < l.length
  rotate_left
  · iterate 2 (refine zc_seq ?_)
    refine zc_region ?_
    iterate 2 (refine zl_pureL rfl ?_)
    refine z_lenL want_none (by decide) rfl ?_
    refine z_cmpB (r := true) want_none (by decide) rfl rfl rfl (iff_of_true rfl (by omega)) ?_
    refine zl_nil ?_
    refine zk_seq ?_
    refine zc_true rfl ?_
    refine zc_seq ?_
    refine zc_region ?_
    iterate 2 (refine zl_pureL rfl ?_)
    refine zl_nil ?_
    refine zk_seq ?_
    refine zc_ret ?_
    refine zk_ret_then ?_
    refine zk_ret_block ?_
    refine zk_ret_then ?_
    refine zk_ret_block ?_
    exact zk_ret1 (.inr rfl) rfl rfl ⟨⟨v, ls, rfl, hR, by omega⟩, hC⟩
  obtain ⟨hkb1, hkb2⟩ := hkb hkl
  iterate 2 (refine zc_seq ?_)
  refine zc_region ?_
  iterate 2 (refine zl_pureL rfl ?_)
  refine z_lenL want_none (by decide) rfl ?_
  refine z_cmpB (r := false) want_none (by decide) rfl rfl rfl (iff_of_false Bool.false_ne_true (by omega)) ?_
  refine zl_nil ?_
  refine zk_seq ?_
  refine zc_false rfl ?_
  refine zc_skip ?_
  refine zk_seq ?_
  refine zc_seq ?_
  refine zc_region ?_
  iterate 2 (refine zl_pureL rfl ?_)
  refine zl_nil ?_
  refine zk_seq ?_
  refine zc_seq ?_
  refine zc_block ?_
  refine zc_midBX (ι := Nat) (fun j u' => k < j ∧ j ≤ l.length ∧ u' = u) (fun j => [(0, .string (bs l)), (3, v), (4, .int .i64 (j : Nat)), (5, .int .i64 (k : Nat))]) ?_ ?_
  · refine zc_loopW (ι := Nat) (fun i u' => [(0, .string (bs l)), (3, v), (4, .int .i64 (i : Nat)), (5, .int .i64 (k : Nat))]) (fun i u' => k ≤ i ∧ i ≤ l.length ∧ u' = u) (fun i u' => l.length - i) k ⟨Nat.le_refl _, hk, rfl⟩ ⟨rfl, rfl, rfl, rfl, trivial⟩ ?_
    rintro i u' ⟨hai, hi, hu'⟩
    obtain rfl := hu'.symm
    by_cases hlt : i < l.length
    · iterate 2 (refine zc_seq ?_)
      refine zc_region ?_
      iterate 2 (refine zl_pureL rfl ?_)
      refine z_lenL want_none (by decide) rfl ?_
      refine z_cmpB (r := true) want_none (by decide) rfl rfl rfl (iff_of_true rfl (by omega)) ?_
      iterate 3 (refine zl_pureL rfl ?_)
      refine z_idxN (want_L rfl) (by decide) rfl rfl (by omega) ?_
      refine zl_call (by first | exact want_none | exact want_L rfl) rfl (by decide) rfl (blankR_calls (Z.byteL l i)) ?_
      rintro _ v2 ⟨rfl, hv⟩
      obtain rfl := hv.symm
      refine ⟨_, rfl, ?_⟩
      cases hb : blankN (Z.byteL l i)
      · iterate 2 (refine zl_pureL rfl ?_)
        refine zl_nil ?_
        refine zk_seq ?_
        refine zc_true rfl ?_
        refine zc_skip ?_
        refine zk_seq ?_
        refine zc_block ?_
        refine zc_region ?_
        refine zl_pureL rfl ?_
        refine z_add want_none (by decide) rfl rfl (by omega) (by omega) ?_
        refine zl_pureL rfl ?_
        refine zl_nil ?_
        refine zk_norm_block ?_
        exact zk_loopW (i + 1) ⟨by omega, by omega, rfl⟩ (by omega) ⟨rfl, rfl, get_int rfl (by omega), rfl, trivial⟩
      · have hik : k ≠ i := fun h => by rw [← h, hkb1] at hb; cases hb
        iterate 2 (refine zl_pureL rfl ?_)
        refine zl_nil ?_
        refine zk_seq ?_
        refine zc_false rfl ?_
        refine zc_exit ?_
        iterate 2 (refine zk_exit_then ?_)
        refine zk_exit_block ?_
        exact zk_midX i ⟨by omega, hi, rfl⟩ ⟨rfl, rfl, rfl, rfl, trivial⟩
    · iterate 2 (refine zc_seq ?_)
      refine zc_region ?_
      iterate 2 (refine zl_pureL rfl ?_)
      refine z_lenL want_none (by decide) rfl ?_
      refine z_cmpB (r := false) want_none (by decide) rfl rfl rfl (iff_of_false Bool.false_ne_true (by omega)) ?_
      iterate 3 (refine zl_pureL rfl ?_)
      iterate 2 (refine zl_skip rfl ?_)
      iterate 2 (refine zl_pureL rfl ?_)
      refine zl_nil ?_
      refine zk_seq ?_
      refine zc_false rfl ?_
      refine zc_exit ?_
      iterate 2 (refine zk_exit_then ?_)
      refine zk_exit_block ?_
      exact zk_midX i ⟨by omega, hi, rfl⟩ ⟨rfl, rfl, rfl, rfl, trivial⟩
  rintro j u' ⟨hkj, hj, hu'⟩
  obtain rfl := hu'.symm
  refine zc_seq ?_
  refine zc_region ?_
  iterate 3 (refine zl_pureL rfl ?_)
  refine z_cutN k j (by first | exact want_none | exact want_L rfl) (by decide) rfl rfl rfl rfl rfl (by omega) hj ?_
  obtain ⟨ur, hur⟩ : ∃ x, x = (l.drop k).take (j - k) := ⟨_, rfl⟩
  have hul : ur.length = j - k := by rw [hur, List.length_take, List.length_drop]; omega
  have hu0 : (ur.getD 0 0).toNat ≠ 44 := by
    have : ur.getD 0 0 = l.getD k 0 := by rw [hur, List.getD_eq_getElem?_getD, List.getElem?_take_of_lt (by omega), List.getElem?_drop, List.getD_eq_getElem?_getD]; rfl
    rw [this]; exact hkb2
  rw [← hur]
  skip
  refine z_buildE #[.string (bs ur), .string (bs [])] (by first | exact want_none | exact want_L rfl) (by decide) rfl (by kernel_rfl) ?_
  refine z_alloc (by first | exact want_none | exact want_L rfl) (by decide) (fun u1 b6 hN1 => ?_)
  have hb1 : Blk u1 b6 98 [.string ⟨#[]⟩, .string ⟨#[]⟩] := hN1.blk
  refine z_store (by first | exact want_none | exact want_L rfl) rfl rfl rfl (by assumption) (by first | exact Nat.le_refl _ | simp [Value.cells]) (by simp [Value.cells, Value.oneCell']) (fun u2 hU2 => ?_)
  have hb2 : Blk u2 b6 98 [.string (bs ur), .string (bs [])] := hU2.blk
  have hge : w.heap.size ≤ b6 := by have := hN1.at_; have := hC.size; omega
  have hC2 : Chg w u2 No := (hC.no hN1.chg).upd hU2 hge
  have hnr : v.ownBlock ≠ some b6 := fun he => by have := hR.own.lt he; have := hN1.at_; omega
  have hR2 : Cnd w.heap.size u2 v ls 300 := ⟨(hR.own.no hN1.chg).chg hU2.chg (fun k hk he => hnr (by have he : k = b6 := he; rw [← he]; exact hk)), hR.ge, hR.le⟩
  refine zl_nil ?_
  refine zk_seq ?_
  refine zc_midX (ι := Nat × List UInt8 × List UInt8) (fun q u' => Blk u' b6 98 [.string (bs q.2.1), .string (bs q.2.2)] ∧ 0 < q.2.1.length ∧ q.2.1.length ≤ 300 ∧ q.2.2.length ≤ 300 ∧ j ≤ q.1 ∧ q.1 ≤ l.length ∧ Cnd w.heap.size u' v ls 300 ∧ Chg w u' No) (fun q => [(0, .string (bs l)), (3, v), (4, .int .i64 (q.1 : Nat)), (6, .pointer (some ⟨b6, 0, none⟩))]) ?_ ?_
  · have hst : ∀ {u3 u4 : World} {cs : List Value}, Cnd w.heap.size u3 v ls 300 → Upd u3 u4 b6 98 cs → Cnd w.heap.size u4 v ls 300 := fun h hU => ⟨h.own.chg hU.chg (fun k hk he => hnr (by have he : k = b6 := he; rw [← he]; exact hk)), h.ge, h.le⟩
    by_cases h44 : Z.byteL l (j - 1) = 44
    · refine zc_seq ?_
      refine zc_region ?_
      iterate 2 (refine zl_pureL rfl ?_)
      refine z_sub want_none (by decide) rfl rfl (by omega) (by omega) ?_
      refine z_idxM want_none (by decide) rfl rfl (by omega) (by omega) ?_
      refine z_cmpB (r := true) want_none (by decide) rfl rfl rfl (iff_of_true rfl (by omega)) ?_
      refine zl_nil ?_
      refine zk_seq ?_
      refine zc_true rfl ?_
      refine zc_block ?_
      refine zc_loopW (ι := List UInt8) (fun q u' => [(0, .string (bs l)), (3, v), (4, .int .i64 (j : Nat)), (6, .pointer (some ⟨b6, 0, none⟩))]) (fun q u' => Blk u' b6 98 [.string (bs q), .string (bs [])] ∧ 0 < q.length ∧ q.length ≤ 300 ∧ (q.getD 0 0).toNat ≠ 44 ∧ Cnd w.heap.size u' v ls 300 ∧ Chg w u' No) (fun q u' => q.length) ur ⟨hb2, by omega, by omega, hu0, hR2, hC2⟩ ⟨rfl, rfl, rfl, rfl, trivial⟩ ?_
      rintro q u3 ⟨hb3, hq0, hq3, hqc, hR3, hC3⟩
      by_cases hq44 : Z.byteL q (q.length - 1) = 44
      · have hq1 : q.length ≠ 1 := fun h => hqc (by rw [h] at hq44; exact hq44)
        iterate 2 (refine zc_seq ?_)
        refine zc_region ?_
        refine z_fa want_none (by decide) rfl ?_
        refine z_loadB want_none (by decide) rfl (by assumption) (by rfl) ?_
        refine z_fa want_none (by decide) rfl ?_
        refine z_loadB want_none (by decide) rfl (by assumption) (by rfl) ?_
        refine z_lenL want_none (by decide) rfl ?_
        refine z_sub want_none (by decide) rfl rfl (by omega) (by omega) ?_
        refine z_idxM want_none (by decide) rfl rfl (by omega) (by omega) ?_
        refine z_cmpB (r := true) want_none (by decide) rfl rfl rfl (iff_of_true rfl (by omega)) ?_
        refine zl_nil ?_
        refine zk_seq ?_
        refine zc_true rfl ?_
        refine zc_skip ?_
        refine zk_seq ?_
        refine zc_block ?_
        refine zc_region ?_
        refine z_fa want_none (by decide) rfl ?_
        refine z_loadB want_none (by decide) rfl (by assumption) (by rfl) ?_
        refine z_fa want_none (by decide) rfl ?_
        refine z_loadB want_none (by decide) rfl (by assumption) (by rfl) ?_
        refine z_lenL want_none (by decide) rfl ?_
        refine z_sub want_none (by decide) rfl rfl (by omega) (by omega) ?_
        refine z_cutN 0 (q.length - 1) (by first | exact want_none | exact want_L rfl) (by decide) rfl rfl rfl rfl (by omega) (by omega) (by omega) ?_
        obtain ⟨q2, hq2⟩ : ∃ x, x = (q.drop 0).take (q.length - 1 - 0) := ⟨_, rfl⟩
        have hq2l : q2.length = q.length - 1 := by rw [hq2, List.length_take, List.length_drop]; omega
        have hq2c : q2.getD 0 0 = q.getD 0 0 := by rw [hq2, List.getD_eq_getElem?_getD, List.getElem?_take_of_lt (by omega), List.drop_zero, List.getD_eq_getElem?_getD]
        rw [← hq2]
        refine z_fa want_none (by decide) rfl ?_
        refine z_store (by first | exact want_none | exact want_L rfl) rfl rfl rfl (by assumption) (by first | exact Nat.le_refl _ | simp [Value.cells]) (by simp [Value.cells, Value.oneCell']) (fun u4 hU4 => ?_)
        have hb4 : Blk u4 b6 98 [.string (bs q2), .string (bs [])] := hU4.blk
        refine zl_nil ?_
        refine zk_norm_block ?_
        exact zk_loopW q2 ⟨hb4, by omega, by omega, by rw [hq2c]; exact hqc, hst hR3 hU4, hC3.upd hU4 hge⟩ (by omega) ⟨rfl, rfl, rfl, rfl, trivial⟩
      · iterate 2 (refine zc_seq ?_)
        refine zc_region ?_
        refine z_fa want_none (by decide) rfl ?_
        refine z_loadB want_none (by decide) rfl (by assumption) (by rfl) ?_
        refine z_fa want_none (by decide) rfl ?_
        refine z_loadB want_none (by decide) rfl (by assumption) (by rfl) ?_
        refine z_lenL want_none (by decide) rfl ?_
        refine z_sub want_none (by decide) rfl rfl (by omega) (by omega) ?_
        refine z_idxM want_none (by decide) rfl rfl (by omega) (by omega) ?_
        refine z_cmpB (r := false) want_none (by decide) rfl rfl rfl (iff_of_false Bool.false_ne_true (by omega)) ?_
        refine zl_nil ?_
        refine zk_seq ?_
        refine zc_false rfl ?_
        refine zc_exit ?_
        iterate 2 (refine zk_exit_then ?_)
        refine zk_exit_block ?_
        exact zk_midX (j, q, []) ⟨hb3, hq0, hq3, by simp, Nat.le_refl _, hj, hR3, hC3⟩ ⟨rfl, rfl, rfl, rfl, trivial⟩
    · refine zc_seq ?_
      refine zc_region ?_
      iterate 2 (refine zl_pureL rfl ?_)
      refine z_sub want_none (by decide) rfl rfl (by omega) (by omega) ?_
      refine z_idxM want_none (by decide) rfl rfl (by omega) (by omega) ?_
      refine z_cmpB (r := false) want_none (by decide) rfl rfl rfl (iff_of_false Bool.false_ne_true (by omega)) ?_
      refine zl_nil ?_
      refine zk_seq ?_
      refine zc_false rfl ?_
      refine zc_seq ?_
      refine zc_region ?_
      iterate 2 (refine zl_pureL rfl ?_)
      refine zl_nil ?_
      refine zk_seq ?_
      refine zc_seq ?_
      refine zc_block ?_
      refine zc_midBX (ι := Nat) (fun i u' => j ≤ i ∧ i ≤ l.length ∧ u' = u2) (fun i => [(0, .string (bs l)), (3, v), (4, .int .i64 (i : Nat)), (5, .int .i64 (j : Nat)), (6, .pointer (some ⟨b6, 0, none⟩))]) ?_ ?_
      · refine zc_loopW (ι := Nat) (fun i u' => [(0, .string (bs l)), (3, v), (4, .int .i64 (i : Nat)), (5, .int .i64 (j : Nat)), (6, .pointer (some ⟨b6, 0, none⟩))]) (fun i u' => j ≤ i ∧ i ≤ l.length ∧ u' = u2) (fun i u' => l.length - i) j ⟨Nat.le_refl _, hj, rfl⟩ ⟨rfl, rfl, rfl, rfl, rfl, trivial⟩ ?_
        rintro i u' ⟨hji, hi, hu'⟩
        obtain rfl := hu'.symm
        by_cases hlt : i < l.length
        · repeat' (first | (show ZL _ _ _ _ _ _ _; first | (show ZL _ _ _ [] _ _ _; refine zl_nil ?_) | refine a_pure ?_ | refine a_skip ?_ | (show ZL _ _ _ (⟨_, (.load _ _), _, _, _, _⟩ :: _) _ _ _; first | refine a_loadB rfl ?_ | refine a_load1 rfl ?_ | refine a_loadAB rfl ?_) | (show ZL _ _ _ (⟨_, (.call _), _, _, _, _⟩ :: _) _ _ _; first | refine a_len rfl ?_ | refine a_lenL rfl ?_ | refine a_min rfl rfl fun _ _ _ _ => ?_ | refine a_max rfl rfl fun _ _ _ _ => ?_) | (show ZL _ _ _ (⟨_, (.binOp .add _ _ _ _), _, _, _, _⟩ :: _) _ _ _; first | refine a_catW rfl rfl fun _ _ => ?_ | refine a_add rfl rfl ?_ | refine a_add8 rfl rfl ?_ | refine a_addW rfl rfl fun _ _ => ?_) | (show ZL _ _ _ (⟨_, (.binOp .sub _ _ _ _), _, _, _, _⟩ :: _) _ _ _; first | refine a_sub rfl rfl ?_ | refine a_subW rfl rfl fun _ _ => ?_) | (show ZL _ _ _ (⟨_, (.fieldAddr _ _ _), _, _, _, _⟩ :: _) _ _ _; refine a_fa rfl ?_) | (show ZL _ _ _ (⟨_, (.indexAddr _ _ _), _, _, _, _⟩ :: _) _ _ _; refine a_ia rfl rfl ?_) | (show ZL _ _ _ (⟨_, (.slice _ _ _ _ _), _, _, _, _⟩ :: _) _ _ _; refine a_cutW rfl rfl rfl fun _ _ => ?_) | (show ZL _ _ _ (⟨_, (.index _ _ _), _, _, _, _⟩ :: _) _ _ _; refine a_idxW rfl rfl fun _ _ => ?_) | (show ZL _ _ _ (⟨_, (.convert _ _ _), _, _, _, _⟩ :: _) _ _ _; refine a_conv rfl ?_) | (show ZL _ _ _ (⟨_, (.binOp _ _ _ _ _), _, _, _, _⟩ :: _) _ _ _; first | refine a_cmpT rfl rfl rfl ?_ | refine a_cmpF rfl rfl rfl ?_ | refine a_shr rfl rfl fun _ _ => ?_ | refine a_and rfl rfl fun _ _ => ?_ | refine a_mul rfl rfl ?_) | (show ZL _ _ _ (⟨_, (.binOp _ _ _ _ _), _, _, _, _⟩ :: _) _ _ _; first | refine a_cmp rfl rfl rfl (fun _ => ?_) fun _ => ?_ | refine a_eq rfl rfl (fun _ => ?_) fun _ => ?_ | refine a_ne rfl rfl (fun _ => ?_) fun _ => ?_)) | (show ZC _ _ _ _ _ _; first | refine zc_seq ?_ | refine zc_region ?_ | refine zc_block ?_ | refine zc_skip ?_ | refine zc_exit ?_ | refine zc_ret ?_ | refine zc_true rfl ?_ | refine zc_false rfl ?_) | (show ZK _ _ _ _ _; first | refine zk_seq ?_ | refine zk_exit_then ?_ | refine zk_ret_then ?_ | refine zk_ret_block ?_ | refine zk_norm_block ?_ | refine zk_exit_block ?_ | refine zk_exit_block' rfl ?_))
          all_goals first | exact zk_loopW (i + 1) ⟨by omega, by omega, rfl⟩ (by omega) ⟨rfl, rfl, get_int rfl (by omega), rfl, rfl, trivial⟩ | exact zk_midX i ⟨hji, hi, rfl⟩ ⟨rfl, rfl, rfl, rfl, rfl, trivial⟩
        · iterate 2 (refine zc_seq ?_)
          refine zc_region ?_
          iterate 2 (refine zl_pureL rfl ?_)
          refine z_lenL want_none (by decide) rfl ?_
          refine z_cmpB (r := false) want_none (by decide) rfl rfl rfl (iff_of_false Bool.false_ne_true (by omega)) ?_
          iterate 3 (refine zl_pureL rfl ?_)
          iterate 2 (refine zl_skip rfl ?_)
          refine zl_pureL rfl ?_
          refine zl_nil ?_
          refine zk_seq ?_
          refine zc_false rfl ?_
          refine zc_exit ?_
          iterate 2 (refine zk_exit_then ?_)
          refine zk_exit_block ?_
          exact zk_midX i ⟨hji, hi, rfl⟩ ⟨rfl, rfl, rfl, rfl, rfl, trivial⟩
      rintro i u' ⟨hji, hi, hu'⟩
      obtain rfl := hu'.symm
      repeat' (first | (show ZL _ _ _ _ _ _ _; first | (show ZL _ _ _ [] _ _ _; refine zl_nil ?_) | refine a_pure ?_ | refine a_skip ?_ | (show ZL _ _ _ (⟨_, (.load _ _), _, _, _, _⟩ :: _) _ _ _; first | refine a_loadB rfl ?_ | refine a_load1 rfl ?_ | refine a_loadAB rfl ?_) | (show ZL _ _ _ (⟨_, (.call _), _, _, _, _⟩ :: _) _ _ _; first | refine a_len rfl ?_ | refine a_lenL rfl ?_ | refine a_min rfl rfl fun _ _ _ _ => ?_ | refine a_max rfl rfl fun _ _ _ _ => ?_) | (show ZL _ _ _ (⟨_, (.binOp .add _ _ _ _), _, _, _, _⟩ :: _) _ _ _; first | refine a_catW rfl rfl fun _ _ => ?_ | refine a_add rfl rfl ?_ | refine a_add8 rfl rfl ?_ | refine a_addW rfl rfl fun _ _ => ?_) | (show ZL _ _ _ (⟨_, (.binOp .sub _ _ _ _), _, _, _, _⟩ :: _) _ _ _; first | refine a_sub rfl rfl ?_ | refine a_subW rfl rfl fun _ _ => ?_) | (show ZL _ _ _ (⟨_, (.fieldAddr _ _ _), _, _, _, _⟩ :: _) _ _ _; refine a_fa rfl ?_) | (show ZL _ _ _ (⟨_, (.indexAddr _ _ _), _, _, _, _⟩ :: _) _ _ _; refine a_ia rfl rfl ?_) | (show ZL _ _ _ (⟨_, (.slice _ _ _ _ _), _, _, _, _⟩ :: _) _ _ _; refine a_cutW rfl rfl rfl fun _ _ => ?_) | (show ZL _ _ _ (⟨_, (.index _ _ _), _, _, _, _⟩ :: _) _ _ _; refine a_idxW rfl rfl fun _ _ => ?_) | (show ZL _ _ _ (⟨_, (.convert _ _ _), _, _, _, _⟩ :: _) _ _ _; refine a_conv rfl ?_) | (show ZL _ _ _ (⟨_, (.binOp _ _ _ _ _), _, _, _, _⟩ :: _) _ _ _; first | refine a_cmpT rfl rfl rfl ?_ | refine a_cmpF rfl rfl rfl ?_ | refine a_shr rfl rfl fun _ _ => ?_ | refine a_and rfl rfl fun _ _ => ?_ | refine a_mul rfl rfl ?_) | (show ZL _ _ _ (⟨_, (.binOp _ _ _ _ _), _, _, _, _⟩ :: _) _ _ _; first | refine a_cmp rfl rfl rfl (fun _ => ?_) fun _ => ?_ | refine a_eq rfl rfl (fun _ => ?_) fun _ => ?_ | refine a_ne rfl rfl (fun _ => ?_) fun _ => ?_)) | (show ZC _ _ _ _ _ _; first | refine zc_seq ?_ | refine zc_region ?_ | refine zc_block ?_ | refine zc_skip ?_ | refine zc_exit ?_ | refine zc_ret ?_ | refine zc_true rfl ?_ | refine zc_false rfl ?_) | (show ZK _ _ _ _ _; first | refine zk_seq ?_ | refine zk_exit_then ?_ | refine zk_ret_then ?_ | refine zk_ret_block ?_ | refine zk_norm_block ?_ | refine zk_exit_block ?_ | refine zk_exit_block' rfl ?_))
      rename_i s hs
      refine zl_call (by first | exact want_none | exact want_L rfl) rfl (by decide) rfl (trimB_calls s (by omega)) ?_
      rintro _ v2 ⟨⟨s2, rfl, hs2⟩, hv⟩
      obtain rfl := hv.symm
      refine ⟨_, rfl, ?_⟩
      refine z_fa want_none (by decide) rfl ?_
      refine z_store (by first | exact want_none | exact want_L rfl) rfl rfl rfl (by assumption) (by first | exact Nat.le_refl _ | simp [Value.cells]) (by simp [Value.cells, Value.oneCell']) (fun u4 hU4 => ?_)
      have hb4 : Blk u4 b6 98 [.string (bs ur), .string (bs s2)] := hU4.blk
      refine zl_nil ?_
      exact zk_midX (i, ur, s2) ⟨hb4, by dsimp only; omega, by dsimp only; omega, by dsimp only; omega, hji, hi, hst hR2 hU4, hC2.upd hU4 hge⟩ ⟨rfl, rfl, rfl, rfl, trivial⟩
  rintro ⟨i, q, s⟩ u3 ⟨hb3, hq0, hq3, hs3, hji, hi, hR3, hC3⟩
  dsimp only at hb3 hq0 hq3 hs3 hji hi hR3 ⊢
  refine zc_region ?_
  refine zl_pureL rfl ?_
  refine z_loadAB want_none (by decide) rfl (by assumption) (by rfl) ?_
  refine z_bs1 (by first | exact want_none | exact want_L rfl) (by decide) rfl (by rfl) (by rfl) (by decide) (by decide) (fun u4 b4 hN4 => ?_)
  have hr : RdS u4 98 2 (.slice (some ⟨b4, 0, none⟩) 1 1) 1 (encA [(q, s)]) := RdS.new hN4 rfl (encA_one _)
  refine z_appendO (by rfl) (by decide) (by first | exact want_none | exact want_L rfl) (by decide) rfl rfl (hR3.own.no hN4.chg) hr (by omega) (by omega) (fun v5 u5 hO5 hC5 hr5 => ?_)
  rw [← encA_app, show ls.length + 1 = (ls ++ [(q, s)]).length by simp] at hO5
  have hv5 := rowge hR3.ge hr5 (by have := hC3.size; have := hN4.size; omega)
  refine zl_pureL rfl ?_
  refine zl_nil ?_
  refine zk_norm_block ?_
  exact zk_loopW (i, v5, ls ++ [(q, s)]) ⟨hi, by dsimp only; rw [List.length_append, List.length_singleton]; omega, ⟨hO5, hv5, fun y hy => by
    rcases List.mem_append.1 hy with hy | hy
    · exact hR3.le y hy
    · rw [List.mem_singleton] at hy; subst hy; exact ⟨hq0, hq3, hs3⟩⟩, (hC3.no hN4.chg).trans hC5 (fun k hk hs => by have := hR3.ge k hs; omega)⟩ (by dsimp only; omega) ⟨rfl, rfl, rfl, trivial⟩
end Go.Proofs.Ytbcmiijollpgeaa.T
