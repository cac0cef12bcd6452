import Derived.Test.YtmhbdalemgmfcaaTWalkB
/- TextKnown, TextJoins: the walks. -/
namespace Go.Proofs.Ytmhbdalemgmfcaa.T
open Go Go.Z Go.Proofs
set_option linter.unusedVariables false
theorem TextJoins_walk (a b : ByteArray) (w : World) (ha : a.size ≤ 140737488351232) (hb : b.size ≤ 140737488351232) : Calls Try.prog 12 #[.string a, .string b] w fun e w' => e = .returned (.bool true) ∧ RowKit.Below w.heap.size w w' := by
  obtain ⟨l, rfl⟩ := bs_ex a
  obtain ⟨r, rfl⟩ := bs_ex b
  rw [bs_size] at ha hb
  show Calls Try.prog 12 [Value.string (bs l), .string (bs r)].toArray w _
  refine calls_zc (n := 48) (f := 12) (fn := Try.f12) Try.func12 rfl rfl (by simp) ?_
  refine zc_seq ?_
  refine zc_region ?_
  refine zl_pureL rfl ?_
  refine zl_nil ?_
  refine zk_seq ?_
  iterate 2 (refine zc_seq ?_)
  refine zc_region ?_
  refine zl_call (by first | exact want_none | exact want_L rfl) rfl (by decide) rfl known_calls ?_
  rintro _ w1 ⟨rfl, hC1⟩
  refine ⟨_, rfl, ?_⟩
  by_cases hl : l.length + r.length > 3000
  · refine zl_pureL rfl ?_
    refine zl_nil ?_
    refine zk_seq ?_
    refine zc_false rfl ?_
    refine zc_skip ?_
    refine zk_seq ?_
    iterate 2 (refine zc_seq ?_)
    refine zc_region ?_
    refine zl_pureL rfl ?_
    refine z_lenL want_none (by decide) rfl ?_
    refine zl_pureL rfl ?_
    refine z_lenL want_none (by decide) rfl ?_
    refine z_add want_none (by decide) rfl rfl (by omega) (by omega) ?_
    refine z_cmpB (r := true) want_none (by decide) rfl rfl rfl (iff_of_true rfl (by omega)) ?_
    iterate 2 (refine zl_pureL rfl ?_)
    refine zl_skip rfl ?_
    iterate 4 (refine zl_pureL rfl ?_)
    refine zl_skip rfl ?_
    iterate 3 (refine zl_pureL rfl ?_)
    refine zl_skip rfl ?_
    refine zl_pureL rfl ?_
    refine zl_nil ?_
    refine zk_seq ?_
    refine zc_true rfl ?_
    refine zc_seq ?_
    refine zc_region ?_
    refine zl_pureL rfl ?_
    refine zl_nil ?_
    refine zk_seq ?_
    refine zc_ret ?_
    refine zk_ret_then ?_
    exact zk_ret1 (.inr rfl) rfl rfl ⟨rfl, hC1.below⟩
  have hl1 : l.length ≤ 3000 := by omega
  have hl2 : r.length ≤ 3000 := by omega
  refine zl_pureL rfl ?_
  refine zl_nil ?_
  refine zk_seq ?_
  refine zc_false rfl ?_
  refine zc_skip ?_
  refine zk_seq ?_
  iterate 2 (refine zc_seq ?_)
  refine zc_region ?_
  refine zl_pureL rfl ?_
  refine z_lenL want_none (by decide) rfl ?_
  refine zl_pureL rfl ?_
  refine z_lenL want_none (by decide) rfl ?_
  refine z_add want_none (by decide) rfl rfl (by omega) (by omega) ?_
  refine z_cmpB (r := false) want_none (by decide) rfl rfl rfl (iff_of_false Bool.false_ne_true (by omega)) ?_
  iterate 2 (refine zl_pureL rfl ?_)
  refine zl_call (by first | exact want_none | exact want_L rfl) rfl (by decide) rfl (wholeR_calls (l := l) (by omega)) ?_
  rintro _ w2 ⟨rfl, rfl⟩
  refine ⟨_, rfl, ?_⟩
  cases hw : whole l
  · iterate 4 (refine zl_pureL rfl ?_)
    refine zl_skip rfl ?_
    iterate 3 (refine zl_pureL rfl ?_)
    refine zl_skip rfl ?_
    refine zl_pureL rfl ?_
    refine zl_nil ?_
    refine zk_seq ?_
    refine zc_true rfl ?_
    refine zc_seq ?_
    refine zc_region ?_
    refine zl_pureL rfl ?_
    refine zl_nil ?_
    refine zk_seq ?_
    refine zc_ret ?_
    refine zk_ret_then ?_
    exact zk_ret1 (.inr rfl) rfl rfl ⟨rfl, hC1.below⟩
  iterate 4 (refine zl_pureL rfl ?_)
  refine zl_call (by first | exact want_none | exact want_L rfl) rfl (by decide) rfl (begins_calls l bom (by omega) (by decide)) ?_
  rintro _ w4 ⟨rfl, rfl⟩
  refine ⟨_, rfl, ?_⟩
  rw [begins_bom]
  by_cases hb1 : l.take 3 = bom
  · rw [decide_eq_true hb1]
    iterate 3 (refine zl_pureL rfl ?_)
    refine zl_skip rfl ?_
    refine zl_pureL rfl ?_
    refine zl_nil ?_
    refine zk_seq ?_
    refine zc_true rfl ?_
    refine zc_seq ?_
    refine zc_region ?_
    refine zl_pureL rfl ?_
    refine zl_nil ?_
    refine zk_seq ?_
    refine zc_ret ?_
    refine zk_ret_then ?_
    exact zk_ret1 (.inr rfl) rfl rfl ⟨rfl, hC1.below⟩
  rw [decide_eq_false hb1]
  iterate 3 (refine zl_pureL rfl ?_)
  refine zl_call (by first | exact want_none | exact want_L rfl) rfl (by decide) rfl (begins_calls r bom (by omega) (by decide)) ?_
  rintro _ w5 ⟨rfl, rfl⟩
  refine ⟨_, rfl, ?_⟩
  rw [begins_bom]
  by_cases hb2 : r.take 3 = bom
  · rw [decide_eq_true hb2]
    refine zl_pureL rfl ?_
    refine zl_nil ?_
    refine zk_seq ?_
    refine zc_true rfl ?_
    refine zc_seq ?_
    refine zc_region ?_
    refine zl_pureL rfl ?_
    refine zl_nil ?_
    refine zk_seq ?_
    refine zc_ret ?_
    refine zk_ret_then ?_
    exact zk_ret1 (.inr rfl) rfl rfl ⟨rfl, hC1.below⟩
  rw [decide_eq_false hb2]
  obtain ⟨j1, j2⟩ := joins l.length l r (Nat.le_refl _) hw
  have hbj := bom_app hw hb1 hb2
  have e1 : decode (l ++ r) = l ++ decode r := by rw [decode_no hbj, decode_no hb2, j1]
  have e2 : decode l = l := decode_whole hw hb1
  have hdr := decode_len r
  refine zl_pureL rfl ?_
  refine zl_nil ?_
  refine zk_seq ?_
  refine zc_false rfl ?_
  refine zc_skip ?_
  refine zk_seq ?_
  refine zc_seq ?_
  refine zc_region ?_
  iterate 2 (refine zl_pureL rfl ?_)
  refine z_catL want_none (by decide) rfl rfl (by omega) ?_
  refine z_convSB (l := l ++ r) (by first | exact want_none | exact want_L rfl) (by decide) rfl (fun w6 b6 c6 z6 hb6 hC6 hB6 hc6 => ?_)
  refine zl_call (by first | exact want_none | exact want_L rfl) rfl (by decide) rfl (decode_calls (hB6.rb hc6) (by rw [List.length_append]; omega)) ?_
  rintro _ w7 ⟨rfl, hC7⟩
  refine ⟨_, rfl, ?_⟩
  refine zl_pureL rfl ?_
  refine z_convSB (l := l) (by first | exact want_none | exact want_L rfl) (by decide) rfl (fun w8 b8 c8 z8 hb8 hC8 hB8 hc8 => ?_)
  refine zl_call (by first | exact want_none | exact want_L rfl) rfl (by decide) rfl (decode_calls (hB8.rb hc8) (by omega)) ?_
  rintro _ w9 ⟨rfl, hC9⟩
  refine ⟨_, rfl, ?_⟩
  refine zl_pureL rfl ?_
  refine z_convSB (l := r) (by first | exact want_none | exact want_L rfl) (by decide) rfl (fun w10 b10 c10 z10 hb10 hC10 hB10 hc10 => ?_)
  refine zl_call (by first | exact want_none | exact want_L rfl) rfl (by decide) rfl (decode_calls (hB10.rb hc10) (by omega)) ?_
  rintro _ w11 ⟨rfl, hC11⟩
  refine ⟨_, rfl, ?_⟩
  rw [e1, e2]
  refine z_catL (by first | exact want_none | exact want_L rfl) (by decide) rfl rfl (by omega) ?_
  refine z_eqLB (q := true) (by first | exact want_none | exact want_L rfl) (by decide) rfl rfl (iff_of_true rfl rfl) ?_
  iterate 3 (refine zl_pureL rfl ?_)
  refine z_catL (want_L rfl) (by decide) rfl rfl (by omega) ?_
  refine zl_call (by first | exact want_none | exact want_L rfl) rfl (by decide) rfl (whole_calls (l := l ++ r) (by rw [List.length_append]; omega)) ?_
  rintro _ w12 ⟨rfl, hC12⟩
  refine ⟨_, rfl, ?_⟩
  rw [j2]
  refine zl_pureL rfl ?_
  refine zl_call (by first | exact want_none | exact want_L rfl) rfl (by decide) rfl (whole_calls (l := r) (by omega)) ?_
  rintro _ w13 ⟨rfl, hC13⟩
  refine ⟨_, rfl, ?_⟩
  refine z_eqT (by first | exact want_none | exact want_L rfl) (by decide) rfl rfl ?_
  rw [beq_self_eq_true]
  iterate 2 (refine zl_pureL rfl ?_)
  refine zl_nil ?_
  refine zk_seq ?_
  refine zc_ret ?_
  exact zk_ret1 (.inr rfl) rfl rfl ⟨rfl, ((((((((hC1.no hC6).no hC7).no hC8).no hC9).no hC10).no hC11).no hC12).no hC13).below⟩
theorem zs_convSB {P : Program} {n : Nat} {e : Env} {w : World} {Q : Exit → Act → World → Prop} {ops : Array Oper} {ty : TypeId} {pos : String} {aft : Array Edge} {g : Option (Nat × Bool)} {x : Operand} {d : Tmp} {ks : List Nat} {S : World → Prop} {i : Nat} {r : Ord}
    {src dst el : TypeId} {l : List UInt8} {u : TypeDesc} [hs : Und P src u] [hd : Und P dst (.slice el)] [he : Und P el (.int .u8)] (hi : ops[i]? = some ⟨some d, .convert src dst x, ty, pos, aft, g⟩) (hw : Want ops e g) (hdn : d < n) (hx : ev e x = some (.string (bs l)))
    (h : ∀ w' b c z, b = w.heap.size → Chg w w' No → BlkB w' b el (cellsB l ++ z) → l.length ≤ c → S w' ∧ ZS P n ops ks S r ((d, .slice (some ⟨b, 0, none⟩) l.length c) :: e) w' Q) :
    ZS P n ops ks S (.all1 i r) e w Q := by
  have hr := Lib.run_convert_string_bytes (P := P) w src dst el (bs l) hs.eq hd.eq he.eq
  rw [bs_size] at hr
  obtain ⟨h1, h2⟩ := h (Lib.bytesWorld w el (bs l)) w.heap.size (grownCap w l.length 0 el) (List.replicate (grownCap w l.length 0 el - l.length) (Value.int .u8 0)) rfl ⟨rfl, rfl, rfl, by rw [Lib.bytesWorld_size]; omega, fun k hk _ => Lib.bytesWorld_at_old w el (bs l) k hk⟩ (by
    have := Lib.bytesWorld_at_new w el (bs l)
    have e1 : Lib.bytesCells w el (bs l) = (cellsB l ++ List.replicate (grownCap w l.length 0 el - l.length) (Value.int .u8 0)).toArray := by
      unfold Lib.bytesCells
      rw [bs_size]
      simp [bs, cellsB]
    rw [e1] at this
    unfold BlkB
    simpa using this) (grownCap_ge w l.length 0 el)
  exact zs_run (v := .slice (some ⟨w.heap.size, 0, none⟩) l.length (grownCap w l.length 0 el)) (w' := Lib.bytesWorld w el (bs l)) hi hw rfl hdn (fun A hA => by simp [execOp, hA.ev hx, hr]) h1 h2
def inL : List (List UInt8) := [[239, 187, 191, 97], [128], [240, 144, 128], [240, 128, 128], [237, 160, 128], [192, 175], [228, 184, 150], [244, 144], [239, 187], [224, 159, 97], [0], [97, 255]]
def outL : List (List UInt8) := [[97], [239, 191, 189], [239, 191, 189], [239, 191, 189, 239, 191, 189, 239, 191, 189], [239, 191, 189, 239, 191, 189, 239, 191, 189], [239, 191, 189, 239, 191, 189], [228, 184, 150], [239, 191, 189, 239, 191, 189], [239, 191, 189], [239, 191, 189, 239, 191, 189, 97], [0], [97, 239, 191, 189]]
theorem known_tab : ∀ i, i < 12 → decode (inL.getD i []) = outL.getD i [] ∧ (inL.getD i []).length ≤ 4 := by decide +kernel
set_option maxHeartbeats 2000000 in
theorem TextKnown_walk (a : Int) (w : World) : Calls Try.prog 5 #[.int .i64 a] w fun e w' => e = .returned (.bool true) ∧ RowKit.Below w.heap.size w w' := by
  have h12 : 0 ≤ a % 12 ∧ a % 12 < 12 := ⟨Int.emod_nonneg _ (by decide), Int.emod_lt_of_pos _ (by decide)⟩
  obtain ⟨i, hi⟩ := Int.eq_ofNat_of_zero_le h12.1
  have hi12 : i < 12 := by omega
  obtain ⟨t1, t2⟩ := known_tab i hi12
  show Calls Try.prog 5 [Value.int .i64 a].toArray w _
  refine calls_zc (n := 26) (f := 5) (fn := Try.f5) Try.func5 rfl rfl (by simp) ?_
  refine zc_seq ?_
  refine zc_region ?_
  refine zl_pureL rfl ?_
  refine zl_nil ?_
  refine zk_seq ?_
  refine zc_seq ?_
  refine zc_region ?_
  refine z_bsE (cellsS inL) (by first | exact want_none | exact want_L rfl) (by decide) rfl (by decide) (by decide) (by kernel_rfl) (fun w1 b1 hN1 => ?_)
  refine zl_pureL rfl ?_
  refine zl_nil ?_
  refine zk_seq ?_
  refine zc_seq ?_
  refine zc_region ?_
  refine z_bsE (cellsS outL) (by first | exact want_none | exact want_L rfl) (by decide) rfl (by decide) (by decide) (by kernel_rfl) (fun w2 b2 hN2 => ?_)
  have hb1 := hN1.blk.no hN2.chg
  have hb2 := hN2.blk
  have hC2 := hN1.chg.no hN2.chg
  refine zl_pureL rfl ?_
  refine zl_nil ?_
  refine zk_seq ?_
  refine zc_seq ?_
  refine zc_region ?_
  iterate 2 (refine zl_pureL rfl ?_)
  refine z_len want_none (by decide) rfl ?_
  refine zl_call (by first | exact want_none | exact want_L rfl) rfl (by decide) rfl (within_calls (n := 12) (by decide) (by decide)) ?_
  rintro _ w3 ⟨rfl, rfl⟩
  refine ⟨_, rfl, ?_⟩
  rw [show a % (12 : Nat) = (i : Int) from hi]
  have l1 : ∀ u z, Chg w3 u No → z = i → u.cell? ⟨b1, z, none⟩ = some (.string (bs (inL.getD i []))) := fun u z hc hz => by rw [hz, (hb1.no hc).cell]; exact cellsS_at inL i hi12
  have l2 : ∀ u z, Chg w3 u No → z = i → u.cell? ⟨b2, z, none⟩ = some (.string (bs (outL.getD i []))) := fun u z hc hz => by rw [hz, (hb2.no hc).cell]; exact cellsS_at outL i hi12
  refine zl_pureL rfl ?_
  refine zl_nil ?_
  refine zk_seq ?_
  refine zc_seq ?_
  refine zc_draw [] (fun w' => Chg w3 w' No) (.all1 0 (.take 1 (.take 2 (.take 3 (.take 4 (.take 5 (.take 8 (.take 9 (.take 10 (.take 11 (.all1 6 (.all1 7 (.take 12 (.take 13 (.take 14 (.fin)))))))))))))))) (by rfl) (by kernel_rfl) (by kernel_rfl) (fun w1 hC1 hH1 => ⟨?_, ?_⟩)
  · exact hC1
  skip
  refine zs_call rfl (by first | exact want_none | exact want_L rfl) rfl (by decide) rfl known_calls ?_
  rintro _ w5 ⟨rfl, hC5⟩
  have hC5 := hC1.no hC5
  refine ⟨_, rfl, hC5, ?_⟩
  iterate 3 (refine zs_take rfl (zt_pure rfl ?_))
  refine zs_rdL rfl (want_L rfl) rfl (by decide) (fun _ hS => r_ia rfl rfl (by omega) (by omega)) ?_
  refine zs_rdL rfl (by first | exact want_none | exact want_L rfl) rfl (by decide) (fun _ hS => r_load1 rfl (l1 _ _ hS (by omega))) ?_
  iterate 2 (refine zs_take rfl (zt_pure rfl ?_))
  refine zs_rdL rfl (want_L rfl) rfl (by decide) (fun _ hS => r_ia rfl rfl (by omega) (by omega)) ?_
  refine zs_rdL rfl (by first | exact want_none | exact want_L rfl) rfl (by decide) (fun _ hS => r_load1 rfl (l2 _ _ hS (by omega))) ?_
  refine zs_convSB rfl (by first | exact want_none | exact want_L rfl) (by decide) rfl (fun w6 b6 c6 z6 hb6 hC6 hB6 hc6 => ?_)
  have hC6 := hC5.no hC6
  refine ⟨hC6, ?_⟩
  refine zs_call rfl (by first | exact want_none | exact want_L rfl) rfl (by decide) rfl (decode_calls (hB6.rb hc6) (by omega)) ?_
  rintro _ w7 ⟨rfl, hC7⟩
  have hC7 := hC6.no hC7
  refine ⟨_, rfl, hC7, ?_⟩
  rw [t1]
  refine zs_rdL rfl (by first | exact want_none | exact want_L rfl) rfl (by decide) (fun _ hS => r_eqL (q := true) rfl rfl (iff_of_true rfl rfl)) ?_
  iterate 2 (refine zs_take rfl (zt_pure rfl ?_))
  refine zs_fin ?_
  refine zk_seq ?_
  refine zc_ret ?_
  exact zk_ret1 (.inr rfl) rfl rfl ⟨rfl, (hC2.no hC7).below⟩
end Go.Proofs.Ytmhbdalemgmfcaa.T
