import Derived.Test.YtbcmiijollpgeaaQDraw
/- Addresses of the document: Parse. -/
namespace Go.Z
open Go
section
variable {P : Program} {n : Nat} {e : Env} {w : World} {a : Act}
theorem gS {ops : Array Oper} {G : Nat → Value → World → Prop} {i d0 : Nat} {v : Value} (h0 : dstOf ops i = some d0) (hG : G i v w) : ∀ d, dstOf ops i = some d → ∃ u, a.put (some d0) v = a.put (some d) u ∧ G i u w := fun d hd => by
  rw [h0] at hd; cases hd; exact ⟨v, rfl, hG⟩
theorem gN {ops : Array Oper} {G : Nat → Value → World → Prop} {i : Nat} {a' : Act} (h0 : dstOf ops i = none) : ∀ d, dstOf ops i = some d → ∃ u, a' = a.put (some d) u ∧ G i u w := fun d hd => by
  rw [h0] at hd; cases hd
theorem gT {ops : Array Oper} {i d0 : Nat} {a' : Act} (h0 : dstOf ops i = some d0) : dstOf ops i = none → a' = a := fun hd => by
  rw [h0] at hd; cases hd
theorem gd_eq {b : Array Bool} {i : Nat} (h : i < b.size) : (b.setIfInBounds i true).getD i false = true := by simp [h]
end
end Go.Z
namespace Go.Proofs.Ytbcmiijollpgeaa.T
open Go Go.Z Go.Proofs
set_option linter.unusedVariables false
set_option maxHeartbeats 4000000 in
theorem utext_calls {w : World} {v : Value} {m : Nat} (h : UrlV v m) (hm : m ≤ 100000000) : Calls Try.prog 62 [v].toArray w fun e w' => (∃ s : List UInt8, e = .returned (.string (bs s)) ∧ s.length ≤ 5 * m + 1048600) ∧ Chg w w' No := by
  have h0 := h
  obtain ⟨a, b, p, c, d, f, rfl, h1, h2, h3, h4, h5, h6⟩ := h
  refine calls_zc (n := 14) (f := 62) (fn := Try.f62) Try.func62 rfl rfl (by simp) ?_
  refine zc_seq ?_
  refine zc_region ?_
  refine z_box (by first | exact want_none | exact want_L rfl) (by decide) rfl (fun w1 b1 hN1 => ?_)
  have hb1 : Blk w1 b1 90 [.string (bs a), .string (bs b), .int .i64 p, .string (bs c), .string (bs d), .string (bs f)] := hN1.blk
  refine zl_pureL rfl ?_
  refine zl_nil ?_
  refine zk_seq ?_
  refine zc_seq ?_
  refine zc_draw [] (fun w' => Chg w1 w' No ∧ Blk w' b1 90 [.string (bs a), .string (bs b), .int .i64 p, .string (bs c), .string (bs d), .string (bs f)]) (.take 0 (.take 2 (.take 3 (.take 5 (.take 6 (.take 8 (.take 9 (.all1 1 (.take 4 (.take 7 (.take 10 (.take 11 (.fin))))))))))))) (by rfl) (by kernel_rfl) (by kernel_rfl) (fun w2 hD _ => ⟨?_, ?_⟩)
  · exact ⟨hD, hb1.no hD⟩
  refine zs_rdL rfl want_none rfl (by decide) (fun _ hS => r_loadAB rfl hS.2 (by rfl)) ?_
  refine zs_rdL rfl want_none rfl (by decide) (fun _ hS => r_fa rfl) ?_
  refine zs_rdL rfl want_none rfl (by decide) (fun _ hS => r_loadB rfl hS.2 (by rfl)) ?_
  refine zs_rdL rfl want_none rfl (by decide) (fun _ hS => r_fa rfl) ?_
  refine zs_rdL rfl want_none rfl (by decide) (fun _ hS => r_loadB rfl hS.2 (by rfl)) ?_
  refine zs_rdL rfl want_none rfl (by decide) (fun _ hS => r_fa rfl) ?_
  refine zs_rdL rfl want_none rfl (by decide) (fun _ hS => r_loadB rfl hS.2 (by rfl)) ?_
  refine zs_call rfl (by first | exact want_none | exact want_L rfl) rfl (by decide) rfl (head_calls h0 hm) ?_
  rintro _ w3 ⟨⟨s, rfl, hs⟩, hC⟩
  have hD2 := hD.no hC
  refine ⟨_, rfl, ⟨hD2, hb1.no hD2⟩, ?_⟩
  refine zs_rdL rfl want_none rfl (by decide) (fun _ hS => r_catL rfl rfl (by omega)) ?_
  iterate 2 (refine zs_rdL rfl want_none rfl (by decide) (fun _ hS => r_catL rfl rfl (by simp only [List.length_append, List.length_cons, List.length_nil]; omega)) ?_)
  refine zs_take rfl (zt_pure rfl ?_)
  refine zs_fin ?_
  refine zk_seq ?_
  refine zc_ret ?_
  exact zk_ret1 (.inr rfl) rfl rfl ⟨⟨_, rfl, by simp only [List.length_append]; omega⟩, hN1.chg.no hD2⟩
abbrev UB (w : World) (b : Nat) (A H : List UInt8) (p : Nat) (c d F : List UInt8) : Prop := Blk w b 90 [.string (bs A), .string (bs H), .int .i64 p, .string (bs c), .string (bs d), .string (bs F)]
theorem UB.chg {w w' : World} {b p : Nat} {A H c d F : List UInt8} {S : Nat → Prop} (h : UB w b A H p c d F) (hc : Chg w w' S) (hn : ¬ S b) : UB w' b A H p c d F := Blk.chg h hc hn
theorem UB.no {w w' : World} {b p : Nat} {A H c d F : List UInt8} (h : UB w b A H p c d F) (hc : Chg w w' No) : UB w' b A H p c d F := Blk.no h hc
def G23' (b6 : Nat) (r : List UInt8) (k : Nat) : Nat → Value → Prop
  | 0, v | 3, v => v = .string (bs r)
  | 1, v | 4, v => v = .int .i64 k
  | 2, v | 5, v => ∃ s : List UInt8, v = .string (bs s) ∧ s.length ≤ 300
  | 6, v => v = .pointer (some ⟨b6, 4, none⟩)
  | 8, v => v = .pointer (some ⟨b6, 3, none⟩)
  | _, _ => True
def G23 (b6 : Nat) (r : List UInt8) (k : Nat) (j : Nat) (v : Value) (_ : World) : Prop := G23' b6 r k j v
def T23 (w0 : World) (b6 : Nat) (A H : List UInt8) (p : Nat) (F : List UInt8) (w : World) : Prop := ∃ c d, UB w b6 A H p c d F ∧ c.length ≤ 300 ∧ d.length ≤ 300 ∧ Chg w0 w (· = b6)
theorem T23.no {w0 w w' : World} {b6 p : Nat} {A H F : List UInt8} (h : T23 w0 b6 A H p F w) (hc : Chg w w' No) : T23 w0 b6 A H p F w' := by
  obtain ⟨c, d, h1, h2, h3, h4⟩ := h
  exact ⟨c, d, h1.no hc, h2, h3, h4.no hc⟩
def G25' (b6 : Nat) : Nat → Value → Prop
  | 0, v | 7, v => v = .pointer (some ⟨b6, 4, none⟩)
  | 3, v | 9, v => v = .pointer (some ⟨b6, 3, none⟩)
  | 1, v | 4, v => ∃ s : List UInt8, v = .string (bs s) ∧ s.length ≤ 300
  | 2, v | 6, v => ∃ s : List UInt8, v = .string (bs s) ∧ s.length ≤ 4000000
  | 5, v => ∃ s : List UInt8, v = .string (bs s) ∧ s.length ≤ 1010000
  | _, _ => True
def G25 (b6 : Nat) (j : Nat) (v : Value) (_ : World) : Prop := G25' b6 j v
def T25 (w0 : World) (b6 : Nat) (A H : List UInt8) (p : Nat) (F : List UInt8) (i j : Nat) (b : Array Bool) (w : World) : Prop := ∃ c d, UB w b6 A H p c d F ∧ c.length ≤ 4000000 ∧ d.length ≤ 4000000 ∧ (b.getD i false = false → c.length ≤ 300) ∧ (b.getD j false = false → d.length ≤ 300) ∧ Chg w0 w (· = b6)
theorem T25.no {w0 w w' : World} {b6 p i j k : Nat} {A H F : List UInt8} {b : Array Bool} (h : T25 w0 b6 A H p F i j b w) (hi : k ≠ i) (hj : k ≠ j) (hc : Chg w w' No) : T25 w0 b6 A H p F i j (b.setIfInBounds k true) w' := by
  obtain ⟨c, d, h1, h2, h3, h4, h5, h6⟩ := h
  exact ⟨c, d, h1.no hc, h2, h3, (fun h => h4 (by rwa [gd_ne hi] at h)), (fun h => h5 (by rwa [gd_ne hj] at h)), h6.no hc⟩
def G26' (b6 : Nat) : Nat → Value → Prop
  | 0, v | 6, v => v = .pointer (some ⟨b6, 4, none⟩)
  | 3, v | 8, v => v = .pointer (some ⟨b6, 3, none⟩)
  | 1, v | 4, v => ∃ s : List UInt8, v = .string (bs s) ∧ s.length ≤ 300
  | 2, v | 5, v => ∃ s : List UInt8, v = .string (bs s) ∧ s.length ≤ 4000000
  | _, _ => True
def G26 (b6 : Nat) (j : Nat) (v : Value) (_ : World) : Prop := G26' b6 j v
set_option maxRecDepth 100000 in
set_option maxHeartbeats 16000000 in
theorem parse_calls {w : World} (l : List UInt8) (hl : l.length ≤ 300) : Calls Try.prog 61 [.string (bs l)].toArray w fun e w' => (∃ v k, e = .returned (.tuple #[v, .int .i64 k]) ∧ UrlV v 4000000) ∧ Chg w w' No := by
  have hbig : big = 1000000000000 := rfl
  have hbad : ∀ k : Int, ∃ v k', Ending.returned (.tuple #[.agg #[.string (bs []), .string (bs []), .int .i64 ((0 : Nat) : Int), .string (bs []), .string (bs []), .string (bs [])], .int .i64 k]) = .returned (.tuple #[v, .int .i64 k']) ∧ UrlV v 4000000 := fun k => ⟨_, _, rfl, UrlV.mk' (by simp) (by simp) (by simp) (by simp) (by simp) (by omega)⟩
  refine calls_zc (n := 122) (f := 61) (fn := Try.f61) Try.func61 rfl rfl (by simp) ?_
  refine zc_seq ?_
  refine zc_region ?_
  refine z_alloc (by first | exact want_none | exact want_L rfl) (by decide) (fun w1 b2 hN1 => ?_)
  have hb2 : UB w1 b2 [] [] 0 [] [] [] := hN1.blk
  refine zl_pureL rfl ?_
  refine zl_nil ?_
  refine zk_seq ?_
  refine zc_seq ?_
  refine zc_region ?_
  refine zl_pureL rfl ?_
  refine zl_call (by first | exact want_none | exact want_L rfl) rfl (by decide) rfl (trimU_calls l (by omega)) ?_
  rintro _ v ⟨⟨s, rfl, hs⟩, hv⟩
  obtain rfl := hv.symm
  refine ⟨_, rfl, ?_⟩
  skip
  refine zl_call (by first | exact want_none | exact want_L rfl) rfl (by decide) rfl (scheme_calls s (by omega)) ?_
  rintro _ w2 ⟨⟨A, r, rfl, hA, hr⟩, hC2⟩
  refine ⟨_, rfl, ?_⟩
  have hb2 := hb2.no hC2
  iterate 5 (refine zl_pureL rfl ?_)
  refine zl_nil ?_
  refine zk_seq ?_
  refine zc_seq ?_
  refine zc_region ?_
  refine zl_pureL rfl ?_
  refine z_buildE #[.string (bs A), .string (bs []), .int .i64 ((0 : Nat) : Int), .string (bs []), .string (bs []), .string (bs [])] (by first | exact want_none | exact want_L rfl) (by decide) rfl (by kernel_rfl) ?_
  refine z_alloc (by first | exact want_none | exact want_L rfl) (by decide) (fun w3 b6 hN3 => ?_)
  have hb6 : Blk w3 b6 90 [.string ⟨#[]⟩, .string ⟨#[]⟩, .int .i64 0, .string ⟨#[]⟩, .string ⟨#[]⟩, .string ⟨#[]⟩] := hN3.blk
  refine z_store (by first | exact want_none | exact want_L rfl) rfl rfl rfl (by assumption) (by first | exact Nat.le_refl _ | simp [Value.cells]) (by simp [Value.cells, Value.oneCell']) (fun w4 hU4 => ?_)
  have hb6 : UB w4 b6 A [] 0 [] [] [] := hU4.blk
  have hne : b2 ≠ b6 := by have := hb2.lt; have := hN3.at_; omega
  have hb2 : UB w4 b2 [] [] 0 [] [] [] := (hb2.no hN3.chg).chg hU4.chg (fun h => hne h)
  have hC14 : Chg w w4 No := ((hN1.chg.no hC2).no hN3.chg).upd hU4 (by have := hN3.at_; have := hC2.size; have := hN1.size; omega)
  have h2ge : w.heap.size ≤ b2 := Nat.le_of_eq hN1.at_.symm
  have h6ge : w.heap.size ≤ b6 := by have := hN3.at_; have := hC2.size; have := hN1.size; omega
  refine zl_nil ?_
  refine zk_seq ?_
  iterate 2 (refine zc_seq ?_)
  refine zc_region ?_
  refine zl_pureL rfl ?_
  refine z_eqL (by first | exact want_none | exact want_L rfl) (by decide) rfl rfl (fun hc => ?_) (fun hc => ?_)
  · refine zl_nil ?_
    refine zk_seq ?_
    refine zc_true rfl ?_
    refine zc_seq ?_
    refine zc_region ?_
    refine z_buildE #[.string (bs []), .string (bs []), .int .i64 ((0 : Nat) : Int), .string (bs []), .string (bs []), .string (bs [])] (by first | exact want_none | exact want_L rfl) (by decide) rfl (by kernel_rfl) ?_
    refine z_store (by first | exact want_none | exact want_L rfl) rfl rfl rfl (by assumption) (by first | exact Nat.le_refl _ | simp [Value.cells]) (by simp [Value.cells, Value.oneCell']) (fun w5 hU5 => ?_)
    have hb5 : UB w5 b2 [] [] 0 [] [] [] := hU5.blk
    refine zl_pureL rfl ?_
    refine zl_nil ?_
    refine zk_seq ?_
    refine zc_ret ?_
    refine zk_ret_then ?_
    exact zk_retCT (.inr rfl) rfl rfl rfl hb5 rfl ⟨hbad 5, hC14.upd hU5 h2ge⟩
  refine zl_nil ?_
  refine zk_seq ?_
  refine zc_false rfl ?_
  refine zc_skip ?_
  refine zk_seq ?_
  refine zc_midX (ι := List UInt8 × List UInt8 × Nat) (fun q u => UB u b6 A q.2.1 q.2.2 [] [] [] ∧ UB u b2 [] [] 0 [] [] [] ∧ q.1.length ≤ 300 ∧ q.2.1.length ≤ 300 ∧ q.2.2 ≤ 65535 ∧ Chg w u No) (fun q => [(0, .string (bs l)), (2, .pointer (some ⟨b2, 0, none⟩)), (4, .string (bs A)), (5, .string (bs q.1)), (6, .pointer (some ⟨b6, 0, none⟩))]) ?_ ?_
  have hp4 : ([47, 92, 63, 35] : List UInt8).length ≤ big := by rw [hbig]; decide
  have hp1 : ∀ c : UInt8, [c].length ≤ big := fun c => by rw [hbig]; simp
  · refine zc_seq ?_
    refine zc_region ?_
    refine zl_pureL rfl ?_
    refine zl_call (by first | exact want_none | exact want_L rfl) rfl (by decide) rfl (web_calls A) ?_
    rintro _ v ⟨⟨q, rfl⟩, hv⟩
    obtain rfl := hv.symm
    refine ⟨_, rfl, ?_⟩
    cases q
    · refine zl_nil ?_
      refine zk_seq ?_
      refine zc_false rfl ?_
      refine zc_skip ?_
      exact zk_midX (r, [], 0) ⟨hb6, hb2, by dsimp only; omega, by simp, by simp, hC14⟩ ⟨rfl, rfl, rfl, rfl, rfl, trivial⟩
    refine zl_nil ?_
    refine zk_seq ?_
    refine zc_true rfl ?_
    refine zc_seq ?_
    refine zc_block ?_
    refine zc_midBX (ι := List UInt8) (fun q u => q.length ≤ 300 ∧ u = w4) (fun q => [(0, .string (bs l)), (2, .pointer (some ⟨b2, 0, none⟩)), (4, .string (bs A)), (5, .string (bs q)), (6, .pointer (some ⟨b6, 0, none⟩))]) ?_ ?_
    · refine zc_loopW (ι := List UInt8) (fun q u => [(0, .string (bs l)), (2, .pointer (some ⟨b2, 0, none⟩)), (4, .string (bs A)), (5, .string (bs q)), (6, .pointer (some ⟨b6, 0, none⟩))]) (fun q u => q.length ≤ 300 ∧ u = w4) (fun q u => q.length) r ⟨by omega, rfl⟩ ⟨rfl, rfl, rfl, rfl, rfl, trivial⟩ ?_
      rintro q u ⟨hq, hu⟩
      obtain rfl := hu.symm
      iterate 2 (refine zc_seq ?_)
      refine zc_region ?_
      refine zl_pureL rfl ?_
      refine z_neL (by first | exact want_none | exact want_L rfl) (by decide) rfl rfl (fun hc => ?_) (fun hc => ?_)
      · have hq0 : 0 < q.length := List.length_pos_iff.2 hc
        repeat' (first | (show ZL _ _ _ _ _ _ _; first | (show ZL _ _ _ [] _ _ _; refine zl_nil ?_) | refine a_pure ?_ | refine a_skip ?_ | (show ZL _ _ _ (⟨_, (.load _ _), _, _, _, _⟩ :: _) _ _ _; first | refine a_loadB rfl ?_ | refine a_load1 rfl ?_ | refine a_loadAB rfl ?_) | (show ZL _ _ _ (⟨_, (.call _), _, _, _, _⟩ :: _) _ _ _; first | refine a_len rfl ?_ | refine a_lenL rfl ?_ | refine a_min rfl rfl fun _ _ _ _ => ?_ | refine a_max rfl rfl fun _ _ _ _ => ?_) | (show ZL _ _ _ (⟨_, (.binOp .add _ _ _ _), _, _, _, _⟩ :: _) _ _ _; first | refine a_catW rfl rfl fun _ _ => ?_ | refine a_add rfl rfl ?_ | refine a_add8 rfl rfl ?_ | refine a_addW rfl rfl fun _ _ => ?_) | (show ZL _ _ _ (⟨_, (.binOp .sub _ _ _ _), _, _, _, _⟩ :: _) _ _ _; first | refine a_sub rfl rfl ?_ | refine a_subW rfl rfl fun _ _ => ?_) | (show ZL _ _ _ (⟨_, (.fieldAddr _ _ _), _, _, _, _⟩ :: _) _ _ _; refine a_fa rfl ?_) | (show ZL _ _ _ (⟨_, (.indexAddr _ _ _), _, _, _, _⟩ :: _) _ _ _; refine a_ia rfl rfl ?_) | (show ZL _ _ _ (⟨_, (.slice _ _ _ _ _), _, _, _, _⟩ :: _) _ _ _; refine a_cutW rfl rfl rfl fun _ _ => ?_) | (show ZL _ _ _ (⟨_, (.index _ _ _), _, _, _, _⟩ :: _) _ _ _; refine a_idxW rfl rfl fun _ _ => ?_) | (show ZL _ _ _ (⟨_, (.convert _ _ _), _, _, _, _⟩ :: _) _ _ _; refine a_conv rfl ?_) | (show ZL _ _ _ (⟨_, (.binOp _ _ _ _ _), _, _, _, _⟩ :: _) _ _ _; first | refine a_cmpT rfl rfl rfl ?_ | refine a_cmpF rfl rfl rfl ?_ | refine a_shr rfl rfl fun _ _ => ?_ | refine a_and rfl rfl fun _ _ => ?_ | refine a_mul rfl rfl ?_) | (show ZL _ _ _ (⟨_, (.binOp _ _ _ _ _), _, _, _, _⟩ :: _) _ _ _; first | refine a_cmp rfl rfl rfl (fun _ => ?_) fun _ => ?_ | refine a_eq rfl rfl (fun _ => ?_) fun _ => ?_ | refine a_ne rfl rfl (fun _ => ?_) fun _ => ?_)) | (show ZC _ _ _ _ _ _; first | refine zc_seq ?_ | refine zc_region ?_ | refine zc_block ?_ | refine zc_skip ?_ | refine zc_exit ?_ | refine zc_ret ?_ | refine zc_true rfl ?_ | refine zc_false rfl ?_) | (show ZK _ _ _ _ _; first | refine zk_seq ?_ | refine zk_exit_then ?_ | refine zk_ret_then ?_ | refine zk_ret_block ?_ | refine zk_norm_block ?_ | refine zk_exit_block ?_ | refine zk_exit_block' rfl ?_))
        all_goals first | exact zk_midX q ⟨hq, rfl⟩ ⟨rfl, rfl, rfl, rfl, rfl, trivial⟩ | (rename_i s hs; exact zk_loopW s ⟨by omega, rfl⟩ (by omega) ⟨rfl, rfl, rfl, rfl, rfl, trivial⟩)
      · repeat' (first | (show ZL _ _ _ _ _ _ _; first | (show ZL _ _ _ [] _ _ _; refine zl_nil ?_) | refine a_pure ?_ | refine a_skip ?_ | (show ZL _ _ _ (⟨_, (.load _ _), _, _, _, _⟩ :: _) _ _ _; first | refine a_loadB rfl ?_ | refine a_load1 rfl ?_ | refine a_loadAB rfl ?_) | (show ZL _ _ _ (⟨_, (.call _), _, _, _, _⟩ :: _) _ _ _; first | refine a_len rfl ?_ | refine a_lenL rfl ?_ | refine a_min rfl rfl fun _ _ _ _ => ?_ | refine a_max rfl rfl fun _ _ _ _ => ?_) | (show ZL _ _ _ (⟨_, (.binOp .add _ _ _ _), _, _, _, _⟩ :: _) _ _ _; first | refine a_catW rfl rfl fun _ _ => ?_ | refine a_add rfl rfl ?_ | refine a_add8 rfl rfl ?_ | refine a_addW rfl rfl fun _ _ => ?_) | (show ZL _ _ _ (⟨_, (.binOp .sub _ _ _ _), _, _, _, _⟩ :: _) _ _ _; first | refine a_sub rfl rfl ?_ | refine a_subW rfl rfl fun _ _ => ?_) | (show ZL _ _ _ (⟨_, (.fieldAddr _ _ _), _, _, _, _⟩ :: _) _ _ _; refine a_fa rfl ?_) | (show ZL _ _ _ (⟨_, (.indexAddr _ _ _), _, _, _, _⟩ :: _) _ _ _; refine a_ia rfl rfl ?_) | (show ZL _ _ _ (⟨_, (.slice _ _ _ _ _), _, _, _, _⟩ :: _) _ _ _; refine a_cutW rfl rfl rfl fun _ _ => ?_) | (show ZL _ _ _ (⟨_, (.index _ _ _), _, _, _, _⟩ :: _) _ _ _; refine a_idxW rfl rfl fun _ _ => ?_) | (show ZL _ _ _ (⟨_, (.convert _ _ _), _, _, _, _⟩ :: _) _ _ _; refine a_conv rfl ?_) | (show ZL _ _ _ (⟨_, (.binOp _ _ _ _ _), _, _, _, _⟩ :: _) _ _ _; first | refine a_cmpT rfl rfl rfl ?_ | refine a_cmpF rfl rfl rfl ?_ | refine a_shr rfl rfl fun _ _ => ?_ | refine a_and rfl rfl fun _ _ => ?_ | refine a_mul rfl rfl ?_) | (show ZL _ _ _ (⟨_, (.binOp _ _ _ _ _), _, _, _, _⟩ :: _) _ _ _; first | refine a_cmp rfl rfl rfl (fun _ => ?_) fun _ => ?_ | refine a_eq rfl rfl (fun _ => ?_) fun _ => ?_ | refine a_ne rfl rfl (fun _ => ?_) fun _ => ?_)) | (show ZC _ _ _ _ _ _; first | refine zc_seq ?_ | refine zc_region ?_ | refine zc_block ?_ | refine zc_skip ?_ | refine zc_exit ?_ | refine zc_ret ?_ | refine zc_true rfl ?_ | refine zc_false rfl ?_) | (show ZK _ _ _ _ _; first | refine zk_seq ?_ | refine zk_exit_then ?_ | refine zk_ret_then ?_ | refine zk_ret_block ?_ | refine zk_norm_block ?_ | refine zk_exit_block ?_ | refine zk_exit_block' rfl ?_))
        exact zk_midX q ⟨hq, rfl⟩ ⟨rfl, rfl, rfl, rfl, rfl, trivial⟩
    rintro r1 u ⟨hr1, hu⟩
    obtain rfl := hu.symm
    repeat' (first | (show ZL _ _ _ _ _ _ _; first | (show ZL _ _ _ [] _ _ _; refine zl_nil ?_) | refine a_pure ?_ | refine a_skip ?_ | (show ZL _ _ _ (⟨_, (.load _ _), _, _, _, _⟩ :: _) _ _ _; first | refine a_loadB rfl ?_ | refine a_load1 rfl ?_ | refine a_loadAB rfl ?_) | (show ZL _ _ _ (⟨_, (.call _), _, _, _, _⟩ :: _) _ _ _; first | refine a_len rfl ?_ | refine a_lenL rfl ?_ | refine a_min rfl rfl fun _ _ _ _ => ?_ | refine a_max rfl rfl fun _ _ _ _ => ?_) | (show ZL _ _ _ (⟨_, (.binOp .add _ _ _ _), _, _, _, _⟩ :: _) _ _ _; first | refine a_catW rfl rfl fun _ _ => ?_ | refine a_add rfl rfl ?_ | refine a_add8 rfl rfl ?_ | refine a_addW rfl rfl fun _ _ => ?_) | (show ZL _ _ _ (⟨_, (.binOp .sub _ _ _ _), _, _, _, _⟩ :: _) _ _ _; first | refine a_sub rfl rfl ?_ | refine a_subW rfl rfl fun _ _ => ?_) | (show ZL _ _ _ (⟨_, (.fieldAddr _ _ _), _, _, _, _⟩ :: _) _ _ _; refine a_fa rfl ?_) | (show ZL _ _ _ (⟨_, (.indexAddr _ _ _), _, _, _, _⟩ :: _) _ _ _; refine a_ia rfl rfl ?_) | (show ZL _ _ _ (⟨_, (.slice _ _ _ _ _), _, _, _, _⟩ :: _) _ _ _; refine a_cutW rfl rfl rfl fun _ _ => ?_) | (show ZL _ _ _ (⟨_, (.index _ _ _), _, _, _, _⟩ :: _) _ _ _; refine a_idxW rfl rfl fun _ _ => ?_) | (show ZL _ _ _ (⟨_, (.convert _ _ _), _, _, _, _⟩ :: _) _ _ _; refine a_conv rfl ?_) | (show ZL _ _ _ (⟨_, (.binOp _ _ _ _ _), _, _, _, _⟩ :: _) _ _ _; first | refine a_cmpT rfl rfl rfl ?_ | refine a_cmpF rfl rfl rfl ?_ | refine a_shr rfl rfl fun _ _ => ?_ | refine a_and rfl rfl fun _ _ => ?_ | refine a_mul rfl rfl ?_) | (show ZL _ _ _ (⟨_, (.binOp _ _ _ _ _), _, _, _, _⟩ :: _) _ _ _; first | refine a_cmp rfl rfl rfl (fun _ => ?_) fun _ => ?_ | refine a_eq rfl rfl (fun _ => ?_) fun _ => ?_ | refine a_ne rfl rfl (fun _ => ?_) fun _ => ?_)) | (show ZC _ _ _ _ _ _; first | refine zc_seq ?_ | refine zc_region ?_ | refine zc_block ?_ | refine zc_skip ?_ | refine zc_exit ?_ | refine zc_ret ?_ | refine zc_true rfl ?_ | refine zc_false rfl ?_) | (show ZK _ _ _ _ _; first | refine zk_seq ?_ | refine zk_exit_then ?_ | refine zk_ret_then ?_ | refine zk_ret_block ?_ | refine zk_norm_block ?_ | refine zk_exit_block ?_ | refine zk_exit_block' rfl ?_))
    refine zl_call (by first | exact want_none | exact want_L rfl) rfl (by decide) rfl (upTo_calls r1 [47, 92, 63, 35] (by omega) hp4) ?_
    rintro _ v ⟨⟨k, rfl, hk⟩, hv⟩
    obtain rfl := hv.symm
    refine ⟨_, rfl, ?_⟩
    repeat' (first | (show ZL _ _ _ _ _ _ _; first | (show ZL _ _ _ [] _ _ _; refine zl_nil ?_) | refine a_pure ?_ | refine a_skip ?_ | (show ZL _ _ _ (⟨_, (.load _ _), _, _, _, _⟩ :: _) _ _ _; first | refine a_loadB rfl ?_ | refine a_load1 rfl ?_ | refine a_loadAB rfl ?_) | (show ZL _ _ _ (⟨_, (.call _), _, _, _, _⟩ :: _) _ _ _; first | refine a_len rfl ?_ | refine a_lenL rfl ?_ | refine a_min rfl rfl fun _ _ _ _ => ?_ | refine a_max rfl rfl fun _ _ _ _ => ?_) | (show ZL _ _ _ (⟨_, (.binOp .add _ _ _ _), _, _, _, _⟩ :: _) _ _ _; first | refine a_catW rfl rfl fun _ _ => ?_ | refine a_add rfl rfl ?_ | refine a_add8 rfl rfl ?_ | refine a_addW rfl rfl fun _ _ => ?_) | (show ZL _ _ _ (⟨_, (.binOp .sub _ _ _ _), _, _, _, _⟩ :: _) _ _ _; first | refine a_sub rfl rfl ?_ | refine a_subW rfl rfl fun _ _ => ?_) | (show ZL _ _ _ (⟨_, (.fieldAddr _ _ _), _, _, _, _⟩ :: _) _ _ _; refine a_fa rfl ?_) | (show ZL _ _ _ (⟨_, (.indexAddr _ _ _), _, _, _, _⟩ :: _) _ _ _; refine a_ia rfl rfl ?_) | (show ZL _ _ _ (⟨_, (.slice _ _ _ _ _), _, _, _, _⟩ :: _) _ _ _; refine a_cutW rfl rfl rfl fun _ _ => ?_) | (show ZL _ _ _ (⟨_, (.index _ _ _), _, _, _, _⟩ :: _) _ _ _; refine a_idxW rfl rfl fun _ _ => ?_) | (show ZL _ _ _ (⟨_, (.convert _ _ _), _, _, _, _⟩ :: _) _ _ _; refine a_conv rfl ?_) | (show ZL _ _ _ (⟨_, (.binOp _ _ _ _ _), _, _, _, _⟩ :: _) _ _ _; first | refine a_cmpT rfl rfl rfl ?_ | refine a_cmpF rfl rfl rfl ?_ | refine a_shr rfl rfl fun _ _ => ?_ | refine a_and rfl rfl fun _ _ => ?_ | refine a_mul rfl rfl ?_) | (show ZL _ _ _ (⟨_, (.binOp _ _ _ _ _), _, _, _, _⟩ :: _) _ _ _; first | refine a_cmp rfl rfl rfl (fun _ => ?_) fun _ => ?_ | refine a_eq rfl rfl (fun _ => ?_) fun _ => ?_ | refine a_ne rfl rfl (fun _ => ?_) fun _ => ?_)) | (show ZC _ _ _ _ _ _; first | refine zc_seq ?_ | refine zc_region ?_ | refine zc_block ?_ | refine zc_skip ?_ | refine zc_exit ?_ | refine zc_ret ?_ | refine zc_true rfl ?_ | refine zc_false rfl ?_) | (show ZK _ _ _ _ _; first | refine zk_seq ?_ | refine zk_exit_then ?_ | refine zk_ret_then ?_ | refine zk_ret_block ?_ | refine zk_norm_block ?_ | refine zk_exit_block ?_ | refine zk_exit_block' rfl ?_))
    rename_i who hwho r2 hr2
    refine zl_call (by first | exact want_none | exact want_L rfl) rfl (by decide) rfl (upTo_calls who [58] (by omega) (hp1 58)) ?_
    rintro _ v ⟨⟨c, rfl, hc⟩, hv⟩
    obtain rfl := hv.symm
    refine ⟨_, rfl, ?_⟩
    repeat' (first | (show ZL _ _ _ _ _ _ _; first | (show ZL _ _ _ [] _ _ _; refine zl_nil ?_) | refine a_pure ?_ | refine a_skip ?_ | (show ZL _ _ _ (⟨_, (.load _ _), _, _, _, _⟩ :: _) _ _ _; first | refine a_loadB rfl ?_ | refine a_load1 rfl ?_ | refine a_loadAB rfl ?_) | (show ZL _ _ _ (⟨_, (.call _), _, _, _, _⟩ :: _) _ _ _; first | refine a_len rfl ?_ | refine a_lenL rfl ?_ | refine a_min rfl rfl fun _ _ _ _ => ?_ | refine a_max rfl rfl fun _ _ _ _ => ?_) | (show ZL _ _ _ (⟨_, (.binOp .add _ _ _ _), _, _, _, _⟩ :: _) _ _ _; first | refine a_catW rfl rfl fun _ _ => ?_ | refine a_add rfl rfl ?_ | refine a_add8 rfl rfl ?_ | refine a_addW rfl rfl fun _ _ => ?_) | (show ZL _ _ _ (⟨_, (.binOp .sub _ _ _ _), _, _, _, _⟩ :: _) _ _ _; first | refine a_sub rfl rfl ?_ | refine a_subW rfl rfl fun _ _ => ?_) | (show ZL _ _ _ (⟨_, (.fieldAddr _ _ _), _, _, _, _⟩ :: _) _ _ _; refine a_fa rfl ?_) | (show ZL _ _ _ (⟨_, (.indexAddr _ _ _), _, _, _, _⟩ :: _) _ _ _; refine a_ia rfl rfl ?_) | (show ZL _ _ _ (⟨_, (.slice _ _ _ _ _), _, _, _, _⟩ :: _) _ _ _; refine a_cutW rfl rfl rfl fun _ _ => ?_) | (show ZL _ _ _ (⟨_, (.index _ _ _), _, _, _, _⟩ :: _) _ _ _; refine a_idxW rfl rfl fun _ _ => ?_) | (show ZL _ _ _ (⟨_, (.convert _ _ _), _, _, _, _⟩ :: _) _ _ _; refine a_conv rfl ?_) | (show ZL _ _ _ (⟨_, (.binOp _ _ _ _ _), _, _, _, _⟩ :: _) _ _ _; first | refine a_cmpT rfl rfl rfl ?_ | refine a_cmpF rfl rfl rfl ?_ | refine a_shr rfl rfl fun _ _ => ?_ | refine a_and rfl rfl fun _ _ => ?_ | refine a_mul rfl rfl ?_) | (show ZL _ _ _ (⟨_, (.binOp _ _ _ _ _), _, _, _, _⟩ :: _) _ _ _; first | refine a_cmp rfl rfl rfl (fun _ => ?_) fun _ => ?_ | refine a_eq rfl rfl (fun _ => ?_) fun _ => ?_ | refine a_ne rfl rfl (fun _ => ?_) fun _ => ?_)) | (show ZC _ _ _ _ _ _; first | refine zc_seq ?_ | refine zc_region ?_ | refine zc_block ?_ | refine zc_skip ?_ | refine zc_exit ?_ | refine zc_ret ?_ | refine zc_true rfl ?_ | refine zc_false rfl ?_) | (show ZK _ _ _ _ _; first | refine zk_seq ?_ | refine zk_exit_then ?_ | refine zk_ret_then ?_ | refine zk_ret_block ?_ | refine zk_norm_block ?_ | refine zk_exit_block ?_ | refine zk_exit_block' rfl ?_))
    rename_i hd hhd
    refine zl_call (by first | exact want_none | exact want_L rfl) rfl (by decide) rfl (fold_calls hd (by omega)) ?_
    rintro _ w5 ⟨⟨H, rfl, hH⟩, hC5⟩
    refine ⟨_, rfl, ?_⟩
    have hb6 := hb6.no hC5
    have hb2 := hb2.no hC5
    repeat' (first | (show ZL _ _ _ _ _ _ _; first | (show ZL _ _ _ [] _ _ _; refine zl_nil ?_) | refine a_pure ?_ | refine a_skip ?_ | (show ZL _ _ _ (⟨_, (.load _ _), _, _, _, _⟩ :: _) _ _ _; first | refine a_loadB rfl ?_ | refine a_load1 rfl ?_ | refine a_loadAB rfl ?_) | (show ZL _ _ _ (⟨_, (.call _), _, _, _, _⟩ :: _) _ _ _; first | refine a_len rfl ?_ | refine a_lenL rfl ?_ | refine a_min rfl rfl fun _ _ _ _ => ?_ | refine a_max rfl rfl fun _ _ _ _ => ?_) | (show ZL _ _ _ (⟨_, (.binOp .add _ _ _ _), _, _, _, _⟩ :: _) _ _ _; first | refine a_catW rfl rfl fun _ _ => ?_ | refine a_add rfl rfl ?_ | refine a_add8 rfl rfl ?_ | refine a_addW rfl rfl fun _ _ => ?_) | (show ZL _ _ _ (⟨_, (.binOp .sub _ _ _ _), _, _, _, _⟩ :: _) _ _ _; first | refine a_sub rfl rfl ?_ | refine a_subW rfl rfl fun _ _ => ?_) | (show ZL _ _ _ (⟨_, (.fieldAddr _ _ _), _, _, _, _⟩ :: _) _ _ _; refine a_fa rfl ?_) | (show ZL _ _ _ (⟨_, (.indexAddr _ _ _), _, _, _, _⟩ :: _) _ _ _; refine a_ia rfl rfl ?_) | (show ZL _ _ _ (⟨_, (.slice _ _ _ _ _), _, _, _, _⟩ :: _) _ _ _; refine a_cutW rfl rfl rfl fun _ _ => ?_) | (show ZL _ _ _ (⟨_, (.index _ _ _), _, _, _, _⟩ :: _) _ _ _; refine a_idxW rfl rfl fun _ _ => ?_) | (show ZL _ _ _ (⟨_, (.convert _ _ _), _, _, _, _⟩ :: _) _ _ _; refine a_conv rfl ?_) | (show ZL _ _ _ (⟨_, (.binOp _ _ _ _ _), _, _, _, _⟩ :: _) _ _ _; first | refine a_cmpT rfl rfl rfl ?_ | refine a_cmpF rfl rfl rfl ?_ | refine a_shr rfl rfl fun _ _ => ?_ | refine a_and rfl rfl fun _ _ => ?_ | refine a_mul rfl rfl ?_) | (show ZL _ _ _ (⟨_, (.binOp _ _ _ _ _), _, _, _, _⟩ :: _) _ _ _; first | refine a_cmp rfl rfl rfl (fun _ => ?_) fun _ => ?_ | refine a_eq rfl rfl (fun _ => ?_) fun _ => ?_ | refine a_ne rfl rfl (fun _ => ?_) fun _ => ?_)) | (show ZC _ _ _ _ _ _; first | refine zc_seq ?_ | refine zc_region ?_ | refine zc_block ?_ | refine zc_skip ?_ | refine zc_exit ?_ | refine zc_ret ?_ | refine zc_true rfl ?_ | refine zc_false rfl ?_) | (show ZK _ _ _ _ _; first | refine zk_seq ?_ | refine zk_exit_then ?_ | refine zk_ret_then ?_ | refine zk_ret_block ?_ | refine zk_norm_block ?_ | refine zk_exit_block ?_ | refine zk_exit_block' rfl ?_))
    refine z_store (by first | exact want_none | exact want_L rfl) rfl rfl rfl (by assumption) (by first | exact Nat.le_refl _ | simp [Value.cells]) (by simp [Value.cells, Value.oneCell']) (fun w6 hU6 => ?_)
    have hb6 : UB w6 b6 A H 0 [] [] [] := hU6.blk
    have hb2 : UB w6 b2 [] [] 0 [] [] [] := hb2.chg hU6.chg (fun h => hne h)
    have hC6 : Chg w w6 No := (hC14.no hC5).upd hU6 h6ge
    repeat' (first | (show ZL _ _ _ _ _ _ _; first | (show ZL _ _ _ [] _ _ _; refine zl_nil ?_) | refine a_pure ?_ | refine a_skip ?_ | (show ZL _ _ _ (⟨_, (.load _ _), _, _, _, _⟩ :: _) _ _ _; first | refine a_loadB rfl ?_ | refine a_load1 rfl ?_ | refine a_loadAB rfl ?_) | (show ZL _ _ _ (⟨_, (.call _), _, _, _, _⟩ :: _) _ _ _; first | refine a_len rfl ?_ | refine a_lenL rfl ?_ | refine a_min rfl rfl fun _ _ _ _ => ?_ | refine a_max rfl rfl fun _ _ _ _ => ?_) | (show ZL _ _ _ (⟨_, (.binOp .add _ _ _ _), _, _, _, _⟩ :: _) _ _ _; first | refine a_catW rfl rfl fun _ _ => ?_ | refine a_add rfl rfl ?_ | refine a_add8 rfl rfl ?_ | refine a_addW rfl rfl fun _ _ => ?_) | (show ZL _ _ _ (⟨_, (.binOp .sub _ _ _ _), _, _, _, _⟩ :: _) _ _ _; first | refine a_sub rfl rfl ?_ | refine a_subW rfl rfl fun _ _ => ?_) | (show ZL _ _ _ (⟨_, (.fieldAddr _ _ _), _, _, _, _⟩ :: _) _ _ _; refine a_fa rfl ?_) | (show ZL _ _ _ (⟨_, (.indexAddr _ _ _), _, _, _, _⟩ :: _) _ _ _; refine a_ia rfl rfl ?_) | (show ZL _ _ _ (⟨_, (.slice _ _ _ _ _), _, _, _, _⟩ :: _) _ _ _; refine a_cutW rfl rfl rfl fun _ _ => ?_) | (show ZL _ _ _ (⟨_, (.index _ _ _), _, _, _, _⟩ :: _) _ _ _; refine a_idxW rfl rfl fun _ _ => ?_) | (show ZL _ _ _ (⟨_, (.convert _ _ _), _, _, _, _⟩ :: _) _ _ _; refine a_conv rfl ?_) | (show ZL _ _ _ (⟨_, (.binOp _ _ _ _ _), _, _, _, _⟩ :: _) _ _ _; first | refine a_cmpT rfl rfl rfl ?_ | refine a_cmpF rfl rfl rfl ?_ | refine a_shr rfl rfl fun _ _ => ?_ | refine a_and rfl rfl fun _ _ => ?_ | refine a_mul rfl rfl ?_) | (show ZL _ _ _ (⟨_, (.binOp _ _ _ _ _), _, _, _, _⟩ :: _) _ _ _; first | refine a_cmp rfl rfl rfl (fun _ => ?_) fun _ => ?_ | refine a_eq rfl rfl (fun _ => ?_) fun _ => ?_ | refine a_ne rfl rfl (fun _ => ?_) fun _ => ?_)) | (show ZC _ _ _ _ _ _; first | refine zc_seq ?_ | refine zc_region ?_ | refine zc_block ?_ | refine zc_skip ?_ | refine zc_exit ?_ | refine zc_ret ?_ | refine zc_true rfl ?_ | refine zc_false rfl ?_) | (show ZK _ _ _ _ _; first | refine zk_seq ?_ | refine zk_exit_then ?_ | refine zk_ret_then ?_ | refine zk_ret_block ?_ | refine zk_norm_block ?_ | refine zk_exit_block ?_ | refine zk_exit_block' rfl ?_))
    refine zl_call (by first | exact want_none | exact want_L rfl) rfl (by decide) rfl (host_calls H (by omega)) ?_
    rintro _ w7 ⟨⟨q, rfl⟩, hC7⟩
    refine ⟨_, rfl, ?_⟩
    have hb6 := hb6.no hC7
    have hb2 := hb2.no hC7
    cases q
    · refine zl_pureL rfl ?_
      refine zl_nil ?_
      refine zk_seq ?_
      refine zc_true rfl ?_
      refine zc_seq ?_
      refine zc_region ?_
      refine z_buildE #[.string (bs []), .string (bs []), .int .i64 ((0 : Nat) : Int), .string (bs []), .string (bs []), .string (bs [])] (by first | exact want_none | exact want_L rfl) (by decide) rfl (by kernel_rfl) ?_
      refine z_store (by first | exact want_none | exact want_L rfl) rfl rfl rfl (by assumption) (by first | exact Nat.le_refl _ | simp [Value.cells]) (by simp [Value.cells, Value.oneCell']) (fun w8 hU8 => ?_)
      have hb8 : UB w8 b2 [] [] 0 [] [] [] := hU8.blk
      refine zl_pureL rfl ?_
      refine zl_nil ?_
      refine zk_seq ?_
      refine zc_ret ?_
      iterate 2 (refine zk_ret_then ?_)
      exact zk_retCT (.inr rfl) rfl rfl rfl hb8 rfl ⟨hbad 6, (hC6.no hC7).upd hU8 h2ge⟩
    repeat' (first | (show ZL _ _ _ _ _ _ _; first | (show ZL _ _ _ [] _ _ _; refine zl_nil ?_) | refine a_pure ?_ | refine a_skip ?_ | (show ZL _ _ _ (⟨_, (.load _ _), _, _, _, _⟩ :: _) _ _ _; first | refine a_loadB rfl ?_ | refine a_load1 rfl ?_ | refine a_loadAB rfl ?_) | (show ZL _ _ _ (⟨_, (.call _), _, _, _, _⟩ :: _) _ _ _; first | refine a_len rfl ?_ | refine a_lenL rfl ?_ | refine a_min rfl rfl fun _ _ _ _ => ?_ | refine a_max rfl rfl fun _ _ _ _ => ?_) | (show ZL _ _ _ (⟨_, (.binOp .add _ _ _ _), _, _, _, _⟩ :: _) _ _ _; first | refine a_catW rfl rfl fun _ _ => ?_ | refine a_add rfl rfl ?_ | refine a_add8 rfl rfl ?_ | refine a_addW rfl rfl fun _ _ => ?_) | (show ZL _ _ _ (⟨_, (.binOp .sub _ _ _ _), _, _, _, _⟩ :: _) _ _ _; first | refine a_sub rfl rfl ?_ | refine a_subW rfl rfl fun _ _ => ?_) | (show ZL _ _ _ (⟨_, (.fieldAddr _ _ _), _, _, _, _⟩ :: _) _ _ _; refine a_fa rfl ?_) | (show ZL _ _ _ (⟨_, (.indexAddr _ _ _), _, _, _, _⟩ :: _) _ _ _; refine a_ia rfl rfl ?_) | (show ZL _ _ _ (⟨_, (.slice _ _ _ _ _), _, _, _, _⟩ :: _) _ _ _; refine a_cutW rfl rfl rfl fun _ _ => ?_) | (show ZL _ _ _ (⟨_, (.index _ _ _), _, _, _, _⟩ :: _) _ _ _; refine a_idxW rfl rfl fun _ _ => ?_) | (show ZL _ _ _ (⟨_, (.convert _ _ _), _, _, _, _⟩ :: _) _ _ _; refine a_conv rfl ?_) | (show ZL _ _ _ (⟨_, (.binOp _ _ _ _ _), _, _, _, _⟩ :: _) _ _ _; first | refine a_cmpT rfl rfl rfl ?_ | refine a_cmpF rfl rfl rfl ?_ | refine a_shr rfl rfl fun _ _ => ?_ | refine a_and rfl rfl fun _ _ => ?_ | refine a_mul rfl rfl ?_) | (show ZL _ _ _ (⟨_, (.binOp _ _ _ _ _), _, _, _, _⟩ :: _) _ _ _; first | refine a_cmp rfl rfl rfl (fun _ => ?_) fun _ => ?_ | refine a_eq rfl rfl (fun _ => ?_) fun _ => ?_ | refine a_ne rfl rfl (fun _ => ?_) fun _ => ?_)) | (show ZC _ _ _ _ _ _; first | refine zc_seq ?_ | refine zc_region ?_ | refine zc_block ?_ | refine zc_skip ?_ | refine zc_exit ?_ | refine zc_ret ?_ | refine zc_true rfl ?_ | refine zc_false rfl ?_) | (show ZK _ _ _ _ _; first | refine zk_seq ?_ | refine zk_exit_then ?_ | refine zk_ret_then ?_ | refine zk_ret_block ?_ | refine zk_norm_block ?_ | refine zk_exit_block ?_ | refine zk_exit_block' rfl ?_))
    rename_i p hp
    refine zl_call (by first | exact want_none | exact want_L rfl) rfl (by decide) rfl (port_calls A p (by omega) (by omega)) ?_
    rintro _ v ⟨⟨n, q, rfl, hn⟩, hv⟩
    obtain rfl := hv.symm
    refine ⟨_, rfl, ?_⟩
    cases q
    · iterate 5 (refine zl_pureL rfl ?_)
      refine zl_nil ?_
      refine zk_seq ?_
      iterate 2 (refine zc_seq ?_)
      refine zc_region ?_
      iterate 2 (refine zl_pureL rfl ?_)
      refine zl_nil ?_
      refine zk_seq ?_
      refine zc_true rfl ?_
      refine zc_seq ?_
      refine zc_region ?_
      refine z_buildE #[.string (bs []), .string (bs []), .int .i64 ((0 : Nat) : Int), .string (bs []), .string (bs []), .string (bs [])] (by first | exact want_none | exact want_L rfl) (by decide) rfl (by kernel_rfl) ?_
      refine z_store (by first | exact want_none | exact want_L rfl) rfl rfl rfl (by assumption) (by first | exact Nat.le_refl _ | simp [Value.cells]) (by simp [Value.cells, Value.oneCell']) (fun w8 hU8 => ?_)
      have hb8 : UB w8 b2 [] [] 0 [] [] [] := hU8.blk
      refine zl_pureL rfl ?_
      refine zl_nil ?_
      refine zk_seq ?_
      refine zc_ret ?_
      iterate 2 (refine zk_ret_then ?_)
      exact zk_retCT (.inr rfl) rfl rfl rfl hb8 rfl ⟨hbad 7, (hC6.no hC7).upd hU8 h2ge⟩
    iterate 5 (refine zl_pureL rfl ?_)
    refine zl_nil ?_
    refine zk_seq ?_
    iterate 2 (refine zc_seq ?_)
    refine zc_region ?_
    iterate 2 (refine zl_pureL rfl ?_)
    refine zl_nil ?_
    refine zk_seq ?_
    refine zc_false rfl ?_
    refine zc_skip ?_
    refine zk_seq ?_
    refine zc_region ?_
    refine zl_pureL rfl ?_
    refine z_fa want_none (by decide) rfl ?_
    refine z_store (by first | exact want_none | exact want_L rfl) rfl rfl rfl (by assumption) (by first | exact Nat.le_refl _ | simp [Value.cells]) (by simp [Value.cells, Value.oneCell']) (fun w8 hU8 => ?_)
    have hb6 : UB w8 b6 A H n [] [] [] := hU8.blk
    have hb2 : UB w8 b2 [] [] 0 [] [] [] := hb2.chg hU8.chg (fun h => hne h)
    refine zl_nil ?_
    exact zk_midX (r2, H, n) ⟨hb6, hb2, by dsimp only; omega, by dsimp only; omega, hn, (hC6.no hC7).upd hU8 h6ge⟩ ⟨rfl, rfl, rfl, rfl, rfl, trivial⟩
  have hp1 : ∀ c : UInt8, [c].length ≤ big := fun c => by rw [hbig]; simp
  have hp2 : ∀ c d : UInt8, [c, d].length ≤ big := fun c d => by rw [hbig]; simp
  clear hb6 hb2
  rintro ⟨r, H, p⟩ u ⟨hb6, hb2, hr, hH, hp, hC⟩
  dsimp only at hb6 hb2 hr hH hp ⊢
  repeat' (first | (show ZL _ _ _ _ _ _ _; first | (show ZL _ _ _ [] _ _ _; refine zl_nil ?_) | refine a_pure ?_ | refine a_skip ?_ | (show ZL _ _ _ (⟨_, (.load _ _), _, _, _, _⟩ :: _) _ _ _; first | refine a_loadB rfl ?_ | refine a_load1 rfl ?_ | refine a_loadAB rfl ?_) | (show ZL _ _ _ (⟨_, (.call _), _, _, _, _⟩ :: _) _ _ _; first | refine a_len rfl ?_ | refine a_lenL rfl ?_ | refine a_min rfl rfl fun _ _ _ _ => ?_ | refine a_max rfl rfl fun _ _ _ _ => ?_) | (show ZL _ _ _ (⟨_, (.binOp .add _ _ _ _), _, _, _, _⟩ :: _) _ _ _; first | refine a_catW rfl rfl fun _ _ => ?_ | refine a_add rfl rfl ?_ | refine a_add8 rfl rfl ?_ | refine a_addW rfl rfl fun _ _ => ?_) | (show ZL _ _ _ (⟨_, (.binOp .sub _ _ _ _), _, _, _, _⟩ :: _) _ _ _; first | refine a_sub rfl rfl ?_ | refine a_subW rfl rfl fun _ _ => ?_) | (show ZL _ _ _ (⟨_, (.fieldAddr _ _ _), _, _, _, _⟩ :: _) _ _ _; refine a_fa rfl ?_) | (show ZL _ _ _ (⟨_, (.indexAddr _ _ _), _, _, _, _⟩ :: _) _ _ _; refine a_ia rfl rfl ?_) | (show ZL _ _ _ (⟨_, (.slice _ _ _ _ _), _, _, _, _⟩ :: _) _ _ _; refine a_cutW rfl rfl rfl fun _ _ => ?_) | (show ZL _ _ _ (⟨_, (.index _ _ _), _, _, _, _⟩ :: _) _ _ _; refine a_idxW rfl rfl fun _ _ => ?_) | (show ZL _ _ _ (⟨_, (.convert _ _ _), _, _, _, _⟩ :: _) _ _ _; refine a_conv rfl ?_) | (show ZL _ _ _ (⟨_, (.binOp _ _ _ _ _), _, _, _, _⟩ :: _) _ _ _; first | refine a_cmpT rfl rfl rfl ?_ | refine a_cmpF rfl rfl rfl ?_ | refine a_shr rfl rfl fun _ _ => ?_ | refine a_and rfl rfl fun _ _ => ?_ | refine a_mul rfl rfl ?_) | (show ZL _ _ _ (⟨_, (.binOp _ _ _ _ _), _, _, _, _⟩ :: _) _ _ _; first | refine a_cmp rfl rfl rfl (fun _ => ?_) fun _ => ?_ | refine a_eq rfl rfl (fun _ => ?_) fun _ => ?_ | refine a_ne rfl rfl (fun _ => ?_) fun _ => ?_)) | (show ZC _ _ _ _ _ _; first | refine zc_seq ?_ | refine zc_region ?_ | refine zc_block ?_ | refine zc_skip ?_ | refine zc_exit ?_ | refine zc_ret ?_ | refine zc_true rfl ?_ | refine zc_false rfl ?_) | (show ZK _ _ _ _ _; first | refine zk_seq ?_ | refine zk_exit_then ?_ | refine zk_ret_then ?_ | refine zk_ret_block ?_ | refine zk_norm_block ?_ | refine zk_exit_block ?_ | refine zk_exit_block' rfl ?_))
  refine zl_call (by first | exact want_none | exact want_L rfl) rfl (by decide) rfl (upTo_calls r [35] (by omega) (hp1 35)) ?_
  rintro _ v ⟨⟨k, rfl, hk⟩, hv⟩
  obtain rfl := hv.symm
  refine ⟨_, rfl, ?_⟩
  repeat' (first | (show ZL _ _ _ _ _ _ _; first | (show ZL _ _ _ [] _ _ _; refine zl_nil ?_) | refine a_pure ?_ | refine a_skip ?_ | (show ZL _ _ _ (⟨_, (.load _ _), _, _, _, _⟩ :: _) _ _ _; first | refine a_loadB rfl ?_ | refine a_load1 rfl ?_ | refine a_loadAB rfl ?_) | (show ZL _ _ _ (⟨_, (.call _), _, _, _, _⟩ :: _) _ _ _; first | refine a_len rfl ?_ | refine a_lenL rfl ?_ | refine a_min rfl rfl fun _ _ _ _ => ?_ | refine a_max rfl rfl fun _ _ _ _ => ?_) | (show ZL _ _ _ (⟨_, (.binOp .add _ _ _ _), _, _, _, _⟩ :: _) _ _ _; first | refine a_catW rfl rfl fun _ _ => ?_ | refine a_add rfl rfl ?_ | refine a_add8 rfl rfl ?_ | refine a_addW rfl rfl fun _ _ => ?_) | (show ZL _ _ _ (⟨_, (.binOp .sub _ _ _ _), _, _, _, _⟩ :: _) _ _ _; first | refine a_sub rfl rfl ?_ | refine a_subW rfl rfl fun _ _ => ?_) | (show ZL _ _ _ (⟨_, (.fieldAddr _ _ _), _, _, _, _⟩ :: _) _ _ _; refine a_fa rfl ?_) | (show ZL _ _ _ (⟨_, (.indexAddr _ _ _), _, _, _, _⟩ :: _) _ _ _; refine a_ia rfl rfl ?_) | (show ZL _ _ _ (⟨_, (.slice _ _ _ _ _), _, _, _, _⟩ :: _) _ _ _; refine a_cutW rfl rfl rfl fun _ _ => ?_) | (show ZL _ _ _ (⟨_, (.index _ _ _), _, _, _, _⟩ :: _) _ _ _; refine a_idxW rfl rfl fun _ _ => ?_) | (show ZL _ _ _ (⟨_, (.convert _ _ _), _, _, _, _⟩ :: _) _ _ _; refine a_conv rfl ?_) | (show ZL _ _ _ (⟨_, (.binOp _ _ _ _ _), _, _, _, _⟩ :: _) _ _ _; first | refine a_cmpT rfl rfl rfl ?_ | refine a_cmpF rfl rfl rfl ?_ | refine a_shr rfl rfl fun _ _ => ?_ | refine a_and rfl rfl fun _ _ => ?_ | refine a_mul rfl rfl ?_) | (show ZL _ _ _ (⟨_, (.binOp _ _ _ _ _), _, _, _, _⟩ :: _) _ _ _; first | refine a_cmp rfl rfl rfl (fun _ => ?_) fun _ => ?_ | refine a_eq rfl rfl (fun _ => ?_) fun _ => ?_ | refine a_ne rfl rfl (fun _ => ?_) fun _ => ?_)) | (show ZC _ _ _ _ _ _; first | refine zc_seq ?_ | refine zc_region ?_ | refine zc_block ?_ | refine zc_skip ?_ | refine zc_exit ?_ | refine zc_ret ?_ | refine zc_true rfl ?_ | refine zc_false rfl ?_) | (show ZK _ _ _ _ _; first | refine zk_seq ?_ | refine zk_exit_then ?_ | refine zk_ret_then ?_ | refine zk_ret_block ?_ | refine zk_norm_block ?_ | refine zk_exit_block ?_ | refine zk_exit_block' rfl ?_))
  rename_i fr hfr
  refine zl_call (by first | exact want_none | exact want_L rfl) rfl (by decide) rfl (safeU_calls fr [] (by omega) (Nat.zero_le _)) ?_
  rintro _ v ⟨⟨F, rfl, hF⟩, hv⟩
  obtain rfl := hv.symm
  refine ⟨_, rfl, ?_⟩
  repeat' (first | (show ZL _ _ _ _ _ _ _; first | (show ZL _ _ _ [] _ _ _; refine zl_nil ?_) | refine a_pure ?_ | refine a_skip ?_ | (show ZL _ _ _ (⟨_, (.load _ _), _, _, _, _⟩ :: _) _ _ _; first | refine a_loadB rfl ?_ | refine a_load1 rfl ?_ | refine a_loadAB rfl ?_) | (show ZL _ _ _ (⟨_, (.call _), _, _, _, _⟩ :: _) _ _ _; first | refine a_len rfl ?_ | refine a_lenL rfl ?_ | refine a_min rfl rfl fun _ _ _ _ => ?_ | refine a_max rfl rfl fun _ _ _ _ => ?_) | (show ZL _ _ _ (⟨_, (.binOp .add _ _ _ _), _, _, _, _⟩ :: _) _ _ _; first | refine a_catW rfl rfl fun _ _ => ?_ | refine a_add rfl rfl ?_ | refine a_add8 rfl rfl ?_ | refine a_addW rfl rfl fun _ _ => ?_) | (show ZL _ _ _ (⟨_, (.binOp .sub _ _ _ _), _, _, _, _⟩ :: _) _ _ _; first | refine a_sub rfl rfl ?_ | refine a_subW rfl rfl fun _ _ => ?_) | (show ZL _ _ _ (⟨_, (.fieldAddr _ _ _), _, _, _, _⟩ :: _) _ _ _; refine a_fa rfl ?_) | (show ZL _ _ _ (⟨_, (.indexAddr _ _ _), _, _, _, _⟩ :: _) _ _ _; refine a_ia rfl rfl ?_) | (show ZL _ _ _ (⟨_, (.slice _ _ _ _ _), _, _, _, _⟩ :: _) _ _ _; refine a_cutW rfl rfl rfl fun _ _ => ?_) | (show ZL _ _ _ (⟨_, (.index _ _ _), _, _, _, _⟩ :: _) _ _ _; refine a_idxW rfl rfl fun _ _ => ?_) | (show ZL _ _ _ (⟨_, (.convert _ _ _), _, _, _, _⟩ :: _) _ _ _; refine a_conv rfl ?_) | (show ZL _ _ _ (⟨_, (.binOp _ _ _ _ _), _, _, _, _⟩ :: _) _ _ _; first | refine a_cmpT rfl rfl rfl ?_ | refine a_cmpF rfl rfl rfl ?_ | refine a_shr rfl rfl fun _ _ => ?_ | refine a_and rfl rfl fun _ _ => ?_ | refine a_mul rfl rfl ?_) | (show ZL _ _ _ (⟨_, (.binOp _ _ _ _ _), _, _, _, _⟩ :: _) _ _ _; first | refine a_cmp rfl rfl rfl (fun _ => ?_) fun _ => ?_ | refine a_eq rfl rfl (fun _ => ?_) fun _ => ?_ | refine a_ne rfl rfl (fun _ => ?_) fun _ => ?_)) | (show ZC _ _ _ _ _ _; first | refine zc_seq ?_ | refine zc_region ?_ | refine zc_block ?_ | refine zc_skip ?_ | refine zc_exit ?_ | refine zc_ret ?_ | refine zc_true rfl ?_ | refine zc_false rfl ?_) | (show ZK _ _ _ _ _; first | refine zk_seq ?_ | refine zk_exit_then ?_ | refine zk_ret_then ?_ | refine zk_ret_block ?_ | refine zk_norm_block ?_ | refine zk_exit_block ?_ | refine zk_exit_block' rfl ?_))
  refine z_store (by first | exact want_none | exact want_L rfl) rfl rfl rfl (by assumption) (by first | exact Nat.le_refl _ | simp [Value.cells]) (by simp [Value.cells, Value.oneCell']) (fun w5 hU5 => ?_)
  have hb6 : UB w5 b6 A H p [] [] F := hU5.blk
  have hb2 : UB w5 b2 [] [] 0 [] [] [] := hb2.chg hU5.chg (fun h => hne h)
  have hC5 : Chg w w5 No := hC.upd hU5 h6ge
  repeat' (first | (show ZL _ _ _ _ _ _ _; first | (show ZL _ _ _ [] _ _ _; refine zl_nil ?_) | refine a_pure ?_ | refine a_skip ?_ | (show ZL _ _ _ (⟨_, (.load _ _), _, _, _, _⟩ :: _) _ _ _; first | refine a_loadB rfl ?_ | refine a_load1 rfl ?_ | refine a_loadAB rfl ?_) | (show ZL _ _ _ (⟨_, (.call _), _, _, _, _⟩ :: _) _ _ _; first | refine a_len rfl ?_ | refine a_lenL rfl ?_ | refine a_min rfl rfl fun _ _ _ _ => ?_ | refine a_max rfl rfl fun _ _ _ _ => ?_) | (show ZL _ _ _ (⟨_, (.binOp .add _ _ _ _), _, _, _, _⟩ :: _) _ _ _; first | refine a_catW rfl rfl fun _ _ => ?_ | refine a_add rfl rfl ?_ | refine a_add8 rfl rfl ?_ | refine a_addW rfl rfl fun _ _ => ?_) | (show ZL _ _ _ (⟨_, (.binOp .sub _ _ _ _), _, _, _, _⟩ :: _) _ _ _; first | refine a_sub rfl rfl ?_ | refine a_subW rfl rfl fun _ _ => ?_) | (show ZL _ _ _ (⟨_, (.fieldAddr _ _ _), _, _, _, _⟩ :: _) _ _ _; refine a_fa rfl ?_) | (show ZL _ _ _ (⟨_, (.indexAddr _ _ _), _, _, _, _⟩ :: _) _ _ _; refine a_ia rfl rfl ?_) | (show ZL _ _ _ (⟨_, (.slice _ _ _ _ _), _, _, _, _⟩ :: _) _ _ _; refine a_cutW rfl rfl rfl fun _ _ => ?_) | (show ZL _ _ _ (⟨_, (.index _ _ _), _, _, _, _⟩ :: _) _ _ _; refine a_idxW rfl rfl fun _ _ => ?_) | (show ZL _ _ _ (⟨_, (.convert _ _ _), _, _, _, _⟩ :: _) _ _ _; refine a_conv rfl ?_) | (show ZL _ _ _ (⟨_, (.binOp _ _ _ _ _), _, _, _, _⟩ :: _) _ _ _; first | refine a_cmpT rfl rfl rfl ?_ | refine a_cmpF rfl rfl rfl ?_ | refine a_shr rfl rfl fun _ _ => ?_ | refine a_and rfl rfl fun _ _ => ?_ | refine a_mul rfl rfl ?_) | (show ZL _ _ _ (⟨_, (.binOp _ _ _ _ _), _, _, _, _⟩ :: _) _ _ _; first | refine a_cmp rfl rfl rfl (fun _ => ?_) fun _ => ?_ | refine a_eq rfl rfl (fun _ => ?_) fun _ => ?_ | refine a_ne rfl rfl (fun _ => ?_) fun _ => ?_)) | (show ZC _ _ _ _ _ _; first | refine zc_seq ?_ | refine zc_region ?_ | refine zc_block ?_ | refine zc_skip ?_ | refine zc_exit ?_ | refine zc_ret ?_ | refine zc_true rfl ?_ | refine zc_false rfl ?_) | (show ZK _ _ _ _ _; first | refine zk_seq ?_ | refine zk_exit_then ?_ | refine zk_ret_then ?_ | refine zk_ret_block ?_ | refine zk_norm_block ?_ | refine zk_exit_block ?_ | refine zk_exit_block' rfl ?_))
  rename_i r2 hr2
  refine zl_call (by first | exact want_none | exact want_L rfl) rfl (by decide) rfl (upTo_calls r2 [63] (by omega) (hp1 63)) ?_
  rintro _ v ⟨⟨k2, rfl, hk2⟩, hv⟩
  obtain rfl := hv.symm
  refine ⟨_, rfl, ?_⟩
  refine zl_pureL rfl ?_
  refine zl_nil ?_
  refine zk_seq ?_
  refine zc_seq ?_
  refine zc_drawS (G23 b6 r2 k2) (fun _ => 10) (fun _ w' => T23 w5 b6 A H p F w') [(2, .pointer (some ⟨b2, 0, none⟩)), (4, .string (bs A)), (5, .string (bs r2)), (6, .pointer (some ⟨b6, 0, none⟩)), (12, .int .i64 k2)] (by rfl) (by kernel_rfl) (by kernel_rfl) ⟨rfl, rfl, rfl, rfl, rfl, trivial⟩ (fun w' hc _ => ⟨[], [], hb6.no hc, by simp, by simp, hc.mono (fun _ _ h => h.elim)⟩) ?_ ?_
  · intro i' hi' bb a y hbsz hbi hcl hwt hL
    obtain ⟨hok', hTL, hd⟩ := hL
    have hi15 : i' < 10 := hi'
    have g : ∀ j, waits _ i' j = true → ∀ dj, dstOf _ j = some dj → ∃ v, a.tmps[dj]? = some v ∧ G23 b6 r2 k2 j v y := fun j hw dj hdj => by
      obtain ⟨v, h1, h2⟩ := hd j hw dj hdj
      exact ⟨v, h1, h2 (fun hh => hh (.inr (Nat.le_refl _)))⟩
    obtain ⟨c0, d0, hb, hc0, hd0, hCT⟩ := id hTL
    match i', hi15 with
    | 0, _ => exact wo_pure rfl hok' rfl ⟨gS (d0 := 89) rfl (show _ = Value.string (bs r2) from rfl), gT (d0 := 89) rfl, hTL, fun _ _ _ _ h => h⟩
    | 1, _ => exact wo_pure rfl hok' rfl ⟨gS (d0 := 90) rfl (show _ = Value.int .i64 k2 from rfl), gT (d0 := 90) rfl, hTL, fun _ _ _ _ h => h⟩
    | 2, _ =>
      obtain ⟨v1, hv1, e1⟩ := g 0 (by kernel_rfl) _ rfl
      obtain ⟨v2, hv2, e2⟩ := g 1 (by kernel_rfl) _ rfl
      have e1 : v1 = .string (bs r2) := e1
      have e2 : v2 = .int .i64 k2 := e2
      subst e1; subst e2
      exact wo_run rfl (by first | exact want_none | exact want_L rfl) rfl ((hok'.cons hv1).cons hv2) (r_cutN k2 r2.length rfl rfl rfl rfl rfl hk2 (Nat.le_refl _)) ⟨gS (d0 := 91) rfl (show ∃ s : List UInt8, Value.string (bs ((r2.drop k2).take (r2.length - k2))) = Value.string (bs s) ∧ s.length ≤ 300 from ⟨_, rfl, by rw [List.length_take, List.length_drop]; omega⟩), gT (d0 := 91) rfl, hTL, fun _ _ _ _ h => h⟩
    | 3, _ => exact wo_pure rfl hok' rfl ⟨gS (d0 := 92) rfl (show _ = Value.string (bs r2) from rfl), gT (d0 := 92) rfl, hTL, fun _ _ _ _ h => h⟩
    | 4, _ => exact wo_pure rfl hok' rfl ⟨gS (d0 := 93) rfl (show _ = Value.int .i64 k2 from rfl), gT (d0 := 93) rfl, hTL, fun _ _ _ _ h => h⟩
    | 5, _ =>
      obtain ⟨v1, hv1, e1⟩ := g 3 (by kernel_rfl) _ rfl
      obtain ⟨v2, hv2, e2⟩ := g 4 (by kernel_rfl) _ rfl
      have e1 : v1 = .string (bs r2) := e1
      have e2 : v2 = .int .i64 k2 := e2
      subst e1; subst e2
      exact wo_run rfl (by first | exact want_none | exact want_L rfl) rfl ((hok'.cons hv1).cons hv2) (r_cutN 0 k2 rfl rfl rfl rfl rfl (Nat.zero_le _) hk2) ⟨gS (d0 := 94) rfl (show ∃ s : List UInt8, Value.string (bs ((r2.drop 0).take (k2 - 0))) = Value.string (bs s) ∧ s.length ≤ 300 from ⟨_, rfl, by rw [List.length_take, List.length_drop]; omega⟩), gT (d0 := 94) rfl, hTL, fun _ _ _ _ h => h⟩
    | 6, _ => exact wo_run rfl (by first | exact want_none | exact want_L rfl) rfl hok' (r_fa rfl) ⟨gS (d0 := 95) rfl (show _ = Value.pointer (some ⟨b6, 4, none⟩) from rfl), gT (d0 := 95) rfl, hTL, fun _ _ _ _ h => h⟩
    | 7, _ =>
      obtain ⟨v1, hv1, s, e1, hs1⟩ := g 2 (by kernel_rfl) _ rfl
      obtain ⟨v2, hv2, e2⟩ := g 6 (by kernel_rfl) _ rfl
      have e2 : v2 = .pointer (some ⟨b6, 4, none⟩) := e2
      subst e1; subst e2
      refine wo_store rfl (by first | exact want_none | exact want_L rfl) ((hok'.cons hv1).cons hv2) rfl rfl (by rfl) hb (by simp [Value.cells]) (by simp [Value.cells, Value.oneCell']) (fun y' hU => ?_)
      exact ⟨gN rfl, fun _ => rfl, ⟨c0, s, hU.blk, hc0, hs1, hCT.trans hU.chg (fun k _ hk => hk)⟩, fun _ _ _ _ h => h⟩
    | 8, _ => exact wo_run rfl (by first | exact want_none | exact want_L rfl) rfl hok' (r_fa rfl) ⟨gS (d0 := 96) rfl (show _ = Value.pointer (some ⟨b6, 3, none⟩) from rfl), gT (d0 := 96) rfl, hTL, fun _ _ _ _ h => h⟩
    | 9, _ =>
      obtain ⟨v1, hv1, s, e1, hs1⟩ := g 5 (by kernel_rfl) _ rfl
      obtain ⟨v2, hv2, e2⟩ := g 8 (by kernel_rfl) _ rfl
      have e2 : v2 = .pointer (some ⟨b6, 3, none⟩) := e2
      subst e1; subst e2
      refine wo_store rfl (by first | exact want_none | exact want_L rfl) ((hok'.cons hv1).cons hv2) rfl rfl (by rfl) hb (by simp [Value.cells]) (by simp [Value.cells, Value.oneCell']) (fun y' hU => ?_)
      exact ⟨gN rfl, fun _ => rfl, ⟨s, d0, hU.blk, hs1, hd0, hCT.trans hU.chg (fun k _ hk => hk)⟩, fun _ _ _ _ h => h⟩
  intro bb a w6 hall hL
  refine np_zk (e := [(2, .pointer (some ⟨b2, 0, none⟩)), (4, .string (bs A)), (5, .string (bs r2)), (6, .pointer (some ⟨b6, 0, none⟩)), (12, .int .i64 k2)]) ?_ hL.ok
  obtain ⟨c1, d1, hb6, hc1, hd1, hC56⟩ := hL.t
  have hb2 : UB w6 b2 [] [] 0 [] [] [] := hb2.chg hC56 (fun h => hne h)
  have hC6 : Chg w w6 No := hC5.trans hC56 (fun j hj hs => by have hs : j = b6 := hs; omega)
  clear hL hall hC56
  refine zk_seq ?_
  refine zc_midX (ι := List UInt8 × List UInt8) (fun q u => UB u b6 A H p q.1 q.2 F ∧ UB u b2 [] [] 0 [] [] [] ∧ q.1.length ≤ 4000000 ∧ q.2.length ≤ 4000000 ∧ Chg w u No) (fun q => [(2, .pointer (some ⟨b2, 0, none⟩)), (6, .pointer (some ⟨b6, 0, none⟩))]) ?_ ?_
  · refine zc_seq ?_
    refine zc_region ?_
    refine zl_pureL rfl ?_
    refine zl_call (by first | exact want_none | exact want_L rfl) rfl (by decide) rfl (web_calls A) ?_
    rintro _ v ⟨⟨q, rfl⟩, hv⟩
    obtain rfl := hv.symm
    refine ⟨_, rfl, ?_⟩
    cases q
    rotate_left
    · skip
      refine zl_nil ?_
      refine zk_seq ?_
      refine zc_true rfl ?_
      refine zc_drawS (G25 b6) (fun _ => 11) (T25 w6 b6 A H p F 10 8) [(2, .pointer (some ⟨b2, 0, none⟩)), (6, .pointer (some ⟨b6, 0, none⟩))] (by rfl) (by kernel_rfl) (by kernel_rfl) ⟨rfl, rfl, trivial⟩ (fun w' hc _ => ⟨c1, d1, hb6.no hc, by omega, by omega, (fun _ => hc1), (fun _ => hd1), hc.mono (fun _ _ h => h.elim)⟩) ?_ ?_
      · intro i' hi' bb a y hbsz hbi hcl hwt hL
        obtain ⟨hok', hTL, hd⟩ := hL
        have hi15 : i' < 11 := hi'
        have g : ∀ j, waits _ i' j = true → ∀ dj, dstOf _ j = some dj → ∃ v, a.tmps[dj]? = some v ∧ G25 b6 j v y := fun j hw dj hdj => by
          obtain ⟨v, h1, h2⟩ := hd j hw dj hdj
          exact ⟨v, h1, h2 (fun hh => hh (.inr (Nat.le_refl _)))⟩
        obtain ⟨c0, d0, hb, hc0, hd0, hcs, hds, hCT⟩ := id hTL
        have hno : ∀ {k : Nat} {y' : World}, k ≠ 10 → k ≠ 8 → Chg y y' No → T25 w6 b6 A H p F 10 8 (bb.setIfInBounds k true) y' := fun h1 h2 h3 => hTL.no h1 h2 h3
        match i', hi15 with
        | 0, _ => exact wo_run rfl (by first | exact want_none | exact want_L rfl) rfl hok' (r_fa rfl) ⟨gS (d0 := 99) rfl (show _ = Value.pointer (some ⟨b6, 4, none⟩) from rfl), gT (d0 := 99) rfl, hno (by decide) (by decide) (Chg.refl _ _), fun _ _ _ _ h => h⟩
        | 1, _ =>
          obtain ⟨v1, hv1, e1⟩ := g 0 (by kernel_rfl) _ rfl
          have e1 : v1 = .pointer (some ⟨b6, 4, none⟩) := e1
          subst e1
          have hsm : d0.length ≤ 300 := hds (by
            rcases h13 : bb.getD 8 false with _ | _
            · rfl
            · skip
              have q0 := hcl 8 2 h13 (by kernel_rfl)
              have q1 := hcl 2 1 q0 (by kernel_rfl)
              rw [hbi] at q1; cases q1)
          exact wo_run rfl (by first | exact want_none | exact want_L rfl) rfl (hok'.cons hv1) (r_loadB rfl hb (by rfl)) ⟨gS (d0 := 100) rfl (show ∃ s : List UInt8, Value.string (bs d0) = Value.string (bs s) ∧ s.length ≤ 300 from ⟨_, rfl, hsm⟩), gT (d0 := 100) rfl, hno (by decide) (by decide) (Chg.refl _ _), fun _ _ _ _ h => h⟩
        | 2, _ =>
          obtain ⟨v1, hv1, s, e1, hs1⟩ := g 1 (by kernel_rfl) _ rfl
          subst e1
          refine wo_call rfl (by first | exact want_none | exact want_L rfl) rfl (hok'.cons hv1) rfl (safeU_calls s [39] (by omega) (hp1 39)) ?_
          rintro _ y' ⟨⟨s2, rfl, hs2⟩, hy⟩
          obtain rfl := hy.symm
          exact ⟨_, rfl, gS (d0 := 101) rfl (show ∃ s : List UInt8, Value.string (bs s2) = Value.string (bs s) ∧ s.length ≤ 4000000 from ⟨_, rfl, by omega⟩), gT (d0 := 101) rfl, hno (by decide) (by decide) (Chg.refl _ _), fun _ _ _ _ h => h⟩
        | 3, _ => exact wo_run rfl (by first | exact want_none | exact want_L rfl) rfl hok' (r_fa rfl) ⟨gS (d0 := 102) rfl (show _ = Value.pointer (some ⟨b6, 3, none⟩) from rfl), gT (d0 := 102) rfl, hno (by decide) (by decide) (Chg.refl _ _), fun _ _ _ _ h => h⟩
        | 4, _ =>
          obtain ⟨v1, hv1, e1⟩ := g 3 (by kernel_rfl) _ rfl
          have e1 : v1 = .pointer (some ⟨b6, 3, none⟩) := e1
          subst e1
          have hsm : c0.length ≤ 300 := hcs (by
            rcases h13 : bb.getD 10 false with _ | _
            · rfl
            · skip
              have q0 := hcl 10 6 h13 (by kernel_rfl)
              have q1 := hcl 6 5 q0 (by kernel_rfl)
              have q2 := hcl 5 4 q1 (by kernel_rfl)
              rw [hbi] at q2; cases q2)
          exact wo_run rfl (by first | exact want_none | exact want_L rfl) rfl (hok'.cons hv1) (r_loadB rfl hb (by rfl)) ⟨gS (d0 := 103) rfl (show ∃ s : List UInt8, Value.string (bs c0) = Value.string (bs s) ∧ s.length ≤ 300 from ⟨_, rfl, hsm⟩), gT (d0 := 103) rfl, hno (by decide) (by decide) (Chg.refl _ _), fun _ _ _ _ h => h⟩
        | 5, _ =>
          obtain ⟨v1, hv1, s, e1, hs1⟩ := g 4 (by kernel_rfl) _ rfl
          subst e1
          refine wo_call rfl (by first | exact want_none | exact want_L rfl) rfl (hok'.cons hv1) rfl (path_calls s (by omega)) ?_
          rintro _ y' ⟨⟨s2, rfl, hs2⟩, hy⟩
          exact ⟨_, rfl, gS (d0 := 104) rfl (show ∃ s : List UInt8, Value.string (bs s2) = Value.string (bs s) ∧ s.length ≤ 1010000 from ⟨_, rfl, hs2⟩), gT (d0 := 104) rfl, hno (by decide) (by decide) hy, fun _ _ _ _ h => h⟩
        | 6, _ =>
          obtain ⟨v1, hv1, s, e1, hs1⟩ := g 5 (by kernel_rfl) _ rfl
          subst e1
          refine wo_call rfl (by first | exact want_none | exact want_L rfl) rfl (hok'.cons hv1) rfl (safeU_calls s [123, 125] (by omega) (hp2 123 125)) ?_
          rintro _ y' ⟨⟨s2, rfl, hs2⟩, hy⟩
          obtain rfl := hy.symm
          exact ⟨_, rfl, gS (d0 := 105) rfl (show ∃ s : List UInt8, Value.string (bs s2) = Value.string (bs s) ∧ s.length ≤ 4000000 from ⟨_, rfl, by omega⟩), gT (d0 := 105) rfl, hno (by decide) (by decide) (Chg.refl _ _), fun _ _ _ _ h => h⟩
        | 7, _ => exact wo_run rfl (by first | exact want_none | exact want_L rfl) rfl hok' (r_fa rfl) ⟨gS (d0 := 106) rfl (show _ = Value.pointer (some ⟨b6, 4, none⟩) from rfl), gT (d0 := 106) rfl, hno (by decide) (by decide) (Chg.refl _ _), fun _ _ _ _ h => h⟩
        | 8, _ =>
          obtain ⟨v1, hv1, s, e1, hs1⟩ := g 2 (by kernel_rfl) _ rfl
          obtain ⟨v2, hv2, e2⟩ := g 7 (by kernel_rfl) _ rfl
          have e2 : v2 = .pointer (some ⟨b6, 4, none⟩) := e2
          subst e1; subst e2
          have hbz : 8 < bb.size := hbsz ▸ hi'
          refine wo_store rfl (by first | exact want_none | exact want_L rfl) ((hok'.cons hv1).cons hv2) rfl rfl (by rfl) hb (by simp [Value.cells]) (by simp [Value.cells, Value.oneCell']) (fun y' hU => ?_)
          exact ⟨gN rfl, fun _ => rfl, ⟨c0, s, hU.blk, hc0, hs1, (fun h => hcs (by rwa [gd_ne (by decide)] at h)), (fun h => by rw [gd_eq (by omega)] at h; cases h), hCT.trans hU.chg (fun k _ hk => hk)⟩, fun _ _ _ _ h => h⟩
        | 9, _ => exact wo_run rfl (by first | exact want_none | exact want_L rfl) rfl hok' (r_fa rfl) ⟨gS (d0 := 107) rfl (show _ = Value.pointer (some ⟨b6, 3, none⟩) from rfl), gT (d0 := 107) rfl, hno (by decide) (by decide) (Chg.refl _ _), fun _ _ _ _ h => h⟩
        | 10, _ =>
          obtain ⟨v1, hv1, s, e1, hs1⟩ := g 6 (by kernel_rfl) _ rfl
          obtain ⟨v2, hv2, e2⟩ := g 9 (by kernel_rfl) _ rfl
          have e2 : v2 = .pointer (some ⟨b6, 3, none⟩) := e2
          subst e1; subst e2
          have hbz : 10 < bb.size := hbsz ▸ hi'
          refine wo_store rfl (by first | exact want_none | exact want_L rfl) ((hok'.cons hv1).cons hv2) rfl rfl (by rfl) hb (by simp [Value.cells]) (by simp [Value.cells, Value.oneCell']) (fun y' hU => ?_)
          exact ⟨gN rfl, fun _ => rfl, ⟨s, d0, hU.blk, hs1, hd0, (fun h => by rw [gd_eq (by omega)] at h; cases h), (fun h => hds (by rwa [gd_ne (by decide)] at h)), hCT.trans hU.chg (fun k _ hk => hk)⟩, fun _ _ _ _ h => h⟩
      intro bb a w7 hall hL
      refine np_zk (e := [(2, .pointer (some ⟨b2, 0, none⟩)), (6, .pointer (some ⟨b6, 0, none⟩))]) ?_ hL.ok
      obtain ⟨c2, d2, hb62, hc2, hd2, _, _, hC67⟩ := hL.t
      skip
      exact zk_midX (c2, d2) ⟨hb62, hb2.chg hC67 (fun h => hne h), hc2, hd2, hC6.trans hC67 (fun j hj hs => by have hs : j = b6 := hs; omega)⟩ ⟨rfl, rfl, trivial⟩
    refine zl_nil ?_
    refine zk_seq ?_
    refine zc_false rfl ?_
    refine zc_drawS (G26 b6) (fun _ => 10) (T25 w6 b6 A H p F 9 7) [(2, .pointer (some ⟨b2, 0, none⟩)), (6, .pointer (some ⟨b6, 0, none⟩))] (by rfl) (by kernel_rfl) (by kernel_rfl) ⟨rfl, rfl, trivial⟩ (fun w' hc _ => ⟨c1, d1, hb6.no hc, by omega, by omega, (fun _ => hc1), (fun _ => hd1), hc.mono (fun _ _ h => h.elim)⟩) ?_ ?_
    · intro i' hi' bb a y hbsz hbi hcl hwt hL
      obtain ⟨hok', hTL, hd⟩ := hL
      have hi15 : i' < 10 := hi'
      have g : ∀ j, waits _ i' j = true → ∀ dj, dstOf _ j = some dj → ∃ v, a.tmps[dj]? = some v ∧ G26 b6 j v y := fun j hw dj hdj => by
        obtain ⟨v, h1, h2⟩ := hd j hw dj hdj
        exact ⟨v, h1, h2 (fun hh => hh (.inr (Nat.le_refl _)))⟩
      obtain ⟨c0, d0, hb, hc0, hd0, hcs, hds, hCT⟩ := id hTL
      have hno : ∀ {k : Nat} {y' : World}, k ≠ 9 → k ≠ 7 → Chg y y' No → T25 w6 b6 A H p F 9 7 (bb.setIfInBounds k true) y' := fun h1 h2 h3 => hTL.no h1 h2 h3
      match i', hi15 with
      | 0, _ => exact wo_run rfl (by first | exact want_none | exact want_L rfl) rfl hok' (r_fa rfl) ⟨gS (d0 := 108) rfl (show _ = Value.pointer (some ⟨b6, 4, none⟩) from rfl), gT (d0 := 108) rfl, hno (by decide) (by decide) (Chg.refl _ _), fun _ _ _ _ h => h⟩
      | 1, _ =>
        obtain ⟨v1, hv1, e1⟩ := g 0 (by kernel_rfl) _ rfl
        have e1 : v1 = .pointer (some ⟨b6, 4, none⟩) := e1
        subst e1
        have hsm : d0.length ≤ 300 := hds (by
          rcases h13 : bb.getD 7 false with _ | _
          · rfl
          · skip
            have q0 := hcl 7 2 h13 (by kernel_rfl)
            have q1 := hcl 2 1 q0 (by kernel_rfl)
            rw [hbi] at q1; cases q1)
        exact wo_run rfl (by first | exact want_none | exact want_L rfl) rfl (hok'.cons hv1) (r_loadB rfl hb (by rfl)) ⟨gS (d0 := 109) rfl (show ∃ s : List UInt8, Value.string (bs d0) = Value.string (bs s) ∧ s.length ≤ 300 from ⟨_, rfl, hsm⟩), gT (d0 := 109) rfl, hno (by decide) (by decide) (Chg.refl _ _), fun _ _ _ _ h => h⟩
      | 2, _ =>
        obtain ⟨v1, hv1, s, e1, hs1⟩ := g 1 (by kernel_rfl) _ rfl
        subst e1
        refine wo_call rfl (by first | exact want_none | exact want_L rfl) rfl (hok'.cons hv1) rfl (safeU_calls s [] (by omega) (Nat.zero_le _)) ?_
        rintro _ y' ⟨⟨s2, rfl, hs2⟩, hy⟩
        obtain rfl := hy.symm
        exact ⟨_, rfl, gS (d0 := 110) rfl (show ∃ s : List UInt8, Value.string (bs s2) = Value.string (bs s) ∧ s.length ≤ 4000000 from ⟨_, rfl, by omega⟩), gT (d0 := 110) rfl, hno (by decide) (by decide) (Chg.refl _ _), fun _ _ _ _ h => h⟩
      | 3, _ => exact wo_run rfl (by first | exact want_none | exact want_L rfl) rfl hok' (r_fa rfl) ⟨gS (d0 := 111) rfl (show _ = Value.pointer (some ⟨b6, 3, none⟩) from rfl), gT (d0 := 111) rfl, hno (by decide) (by decide) (Chg.refl _ _), fun _ _ _ _ h => h⟩
      | 4, _ =>
        obtain ⟨v1, hv1, e1⟩ := g 3 (by kernel_rfl) _ rfl
        have e1 : v1 = .pointer (some ⟨b6, 3, none⟩) := e1
        subst e1
        have hsm : c0.length ≤ 300 := hcs (by
          rcases h13 : bb.getD 9 false with _ | _
          · rfl
          · skip
            have q0 := hcl 9 5 h13 (by kernel_rfl)
            have q1 := hcl 5 4 q0 (by kernel_rfl)
            rw [hbi] at q1; cases q1)
        exact wo_run rfl (by first | exact want_none | exact want_L rfl) rfl (hok'.cons hv1) (r_loadB rfl hb (by rfl)) ⟨gS (d0 := 112) rfl (show ∃ s : List UInt8, Value.string (bs c0) = Value.string (bs s) ∧ s.length ≤ 300 from ⟨_, rfl, hsm⟩), gT (d0 := 112) rfl, hno (by decide) (by decide) (Chg.refl _ _), fun _ _ _ _ h => h⟩
      | 5, _ =>
        obtain ⟨v1, hv1, s, e1, hs1⟩ := g 4 (by kernel_rfl) _ rfl
        subst e1
        refine wo_call rfl (by first | exact want_none | exact want_L rfl) rfl (hok'.cons hv1) rfl (safeU_calls s [] (by omega) (Nat.zero_le _)) ?_
        rintro _ y' ⟨⟨s2, rfl, hs2⟩, hy⟩
        obtain rfl := hy.symm
        exact ⟨_, rfl, gS (d0 := 113) rfl (show ∃ s : List UInt8, Value.string (bs s2) = Value.string (bs s) ∧ s.length ≤ 4000000 from ⟨_, rfl, by omega⟩), gT (d0 := 113) rfl, hno (by decide) (by decide) (Chg.refl _ _), fun _ _ _ _ h => h⟩
      | 6, _ => exact wo_run rfl (by first | exact want_none | exact want_L rfl) rfl hok' (r_fa rfl) ⟨gS (d0 := 114) rfl (show _ = Value.pointer (some ⟨b6, 4, none⟩) from rfl), gT (d0 := 114) rfl, hno (by decide) (by decide) (Chg.refl _ _), fun _ _ _ _ h => h⟩
      | 7, _ =>
        obtain ⟨v1, hv1, s, e1, hs1⟩ := g 2 (by kernel_rfl) _ rfl
        obtain ⟨v2, hv2, e2⟩ := g 6 (by kernel_rfl) _ rfl
        have e2 : v2 = .pointer (some ⟨b6, 4, none⟩) := e2
        subst e1; subst e2
        have hbz : 7 < bb.size := hbsz ▸ hi'
        refine wo_store rfl (by first | exact want_none | exact want_L rfl) ((hok'.cons hv1).cons hv2) rfl rfl (by rfl) hb (by simp [Value.cells]) (by simp [Value.cells, Value.oneCell']) (fun y' hU => ?_)
        exact ⟨gN rfl, fun _ => rfl, ⟨c0, s, hU.blk, hc0, hs1, (fun h => hcs (by rwa [gd_ne (by decide)] at h)), (fun h => by rw [gd_eq (by omega)] at h; cases h), hCT.trans hU.chg (fun k _ hk => hk)⟩, fun _ _ _ _ h => h⟩
      | 8, _ => exact wo_run rfl (by first | exact want_none | exact want_L rfl) rfl hok' (r_fa rfl) ⟨gS (d0 := 115) rfl (show _ = Value.pointer (some ⟨b6, 3, none⟩) from rfl), gT (d0 := 115) rfl, hno (by decide) (by decide) (Chg.refl _ _), fun _ _ _ _ h => h⟩
      | 9, _ =>
        obtain ⟨v1, hv1, s, e1, hs1⟩ := g 5 (by kernel_rfl) _ rfl
        obtain ⟨v2, hv2, e2⟩ := g 8 (by kernel_rfl) _ rfl
        have e2 : v2 = .pointer (some ⟨b6, 3, none⟩) := e2
        subst e1; subst e2
        have hbz : 9 < bb.size := hbsz ▸ hi'
        refine wo_store rfl (by first | exact want_none | exact want_L rfl) ((hok'.cons hv1).cons hv2) rfl rfl (by rfl) hb (by simp [Value.cells]) (by simp [Value.cells, Value.oneCell']) (fun y' hU => ?_)
        exact ⟨gN rfl, fun _ => rfl, ⟨s, d0, hU.blk, hs1, hd0, (fun h => by rw [gd_eq (by omega)] at h; cases h), (fun h => hds (by rwa [gd_ne (by decide)] at h)), hCT.trans hU.chg (fun k _ hk => hk)⟩, fun _ _ _ _ h => h⟩
    intro bb a w7 hall hL
    refine np_zk (e := [(2, .pointer (some ⟨b2, 0, none⟩)), (6, .pointer (some ⟨b6, 0, none⟩))]) ?_ hL.ok
    obtain ⟨c2, d2, hb62, hc2, hd2, _, _, hC67⟩ := hL.t
    skip
    exact zk_midX (c2, d2) ⟨hb62, hb2.chg hC67 (fun h => hne h), hc2, hd2, hC6.trans hC67 (fun j hj hs => by have hs : j = b6 := hs; omega)⟩ ⟨rfl, rfl, trivial⟩
  rintro ⟨c, d⟩ u ⟨hb6, hb2, hc, hd, hC⟩
  dsimp only at hb6 hb2 hc hd ⊢
  have hV : UrlV (.agg #[.string (bs A), .string (bs H), .int .i64 p, .string (bs c), .string (bs d), .string (bs F)]) 4000000 := UrlV.mk' (by omega) (by omega) hc hd (by omega) hp
  iterate 2 (refine zc_seq ?_)
  refine zc_region ?_
  refine z_loadAB want_none (by decide) rfl (by assumption) (by rfl) ?_
  refine zl_call (by first | exact want_none | exact want_L rfl) rfl (by decide) rfl (utext_calls hV (by omega)) ?_
  rintro _ w7 ⟨⟨s, rfl, hs⟩, hC7⟩
  refine ⟨_, rfl, ?_⟩
  have hb6 := hb6.no hC7
  have hb2 := hb2.no hC7
  repeat' (first | (show ZL _ _ _ _ _ _ _; first | (show ZL _ _ _ [] _ _ _; refine zl_nil ?_) | refine a_pure ?_ | refine a_skip ?_ | (show ZL _ _ _ (⟨_, (.load _ _), _, _, _, _⟩ :: _) _ _ _; first | refine a_loadB rfl ?_ | refine a_load1 rfl ?_ | refine a_loadAB rfl ?_) | (show ZL _ _ _ (⟨_, (.call _), _, _, _, _⟩ :: _) _ _ _; first | refine a_len rfl ?_ | refine a_lenL rfl ?_ | refine a_min rfl rfl fun _ _ _ _ => ?_ | refine a_max rfl rfl fun _ _ _ _ => ?_) | (show ZL _ _ _ (⟨_, (.binOp .add _ _ _ _), _, _, _, _⟩ :: _) _ _ _; first | refine a_catW rfl rfl fun _ _ => ?_ | refine a_add rfl rfl ?_ | refine a_add8 rfl rfl ?_ | refine a_addW rfl rfl fun _ _ => ?_) | (show ZL _ _ _ (⟨_, (.binOp .sub _ _ _ _), _, _, _, _⟩ :: _) _ _ _; first | refine a_sub rfl rfl ?_ | refine a_subW rfl rfl fun _ _ => ?_) | (show ZL _ _ _ (⟨_, (.fieldAddr _ _ _), _, _, _, _⟩ :: _) _ _ _; refine a_fa rfl ?_) | (show ZL _ _ _ (⟨_, (.indexAddr _ _ _), _, _, _, _⟩ :: _) _ _ _; refine a_ia rfl rfl ?_) | (show ZL _ _ _ (⟨_, (.slice _ _ _ _ _), _, _, _, _⟩ :: _) _ _ _; refine a_cutW rfl rfl rfl fun _ _ => ?_) | (show ZL _ _ _ (⟨_, (.index _ _ _), _, _, _, _⟩ :: _) _ _ _; refine a_idxW rfl rfl fun _ _ => ?_) | (show ZL _ _ _ (⟨_, (.convert _ _ _), _, _, _, _⟩ :: _) _ _ _; refine a_conv rfl ?_) | (show ZL _ _ _ (⟨_, (.binOp _ _ _ _ _), _, _, _, _⟩ :: _) _ _ _; first | refine a_cmpT rfl rfl rfl ?_ | refine a_cmpF rfl rfl rfl ?_ | refine a_shr rfl rfl fun _ _ => ?_ | refine a_and rfl rfl fun _ _ => ?_ | refine a_mul rfl rfl ?_) | (show ZL _ _ _ (⟨_, (.binOp _ _ _ _ _), _, _, _, _⟩ :: _) _ _ _; first | refine a_cmp rfl rfl rfl (fun _ => ?_) fun _ => ?_ | refine a_eq rfl rfl (fun _ => ?_) fun _ => ?_ | refine a_ne rfl rfl (fun _ => ?_) fun _ => ?_)) | (show ZC _ _ _ _ _ _; first | refine zc_seq ?_ | refine zc_region ?_ | refine zc_block ?_ | refine zc_skip ?_ | refine zc_exit ?_ | refine zc_ret ?_ | refine zc_true rfl ?_ | refine zc_false rfl ?_) | (show ZK _ _ _ _ _; first | refine zk_seq ?_ | refine zk_exit_then ?_ | refine zk_ret_then ?_ | refine zk_ret_block ?_ | refine zk_norm_block ?_ | refine zk_exit_block ?_ | refine zk_exit_block' rfl ?_))
  · refine z_buildE #[.string (bs []), .string (bs []), .int .i64 ((0 : Nat) : Int), .string (bs []), .string (bs []), .string (bs [])] (by first | exact want_none | exact want_L rfl) (by decide) rfl (by kernel_rfl) ?_
    refine z_store (by first | exact want_none | exact want_L rfl) rfl rfl rfl (by assumption) (by first | exact Nat.le_refl _ | simp [Value.cells]) (by simp [Value.cells, Value.oneCell']) (fun w8 hU8 => ?_)
    have hb8 : UB w8 b2 [] [] 0 [] [] [] := hU8.blk
    refine zl_pureL rfl ?_
    refine zl_nil ?_
    refine zk_seq ?_
    refine zc_ret ?_
    refine zk_ret_then ?_
    exact zk_retCT (.inr rfl) rfl rfl rfl hb8 rfl ⟨hbad 8, (hC.no hC7).upd hU8 h2ge⟩
  · refine z_store (by first | exact want_none | exact want_L rfl) rfl rfl rfl (by assumption) (by first | exact Nat.le_refl _ | simp [Value.cells]) (by simp [Value.cells, Value.oneCell']) (fun w8 hU8 => ?_)
    have hb8 : UB w8 b2 A H p c d F := hU8.blk
    refine zl_pureL rfl ?_
    refine zl_nil ?_
    refine zk_seq ?_
    refine zc_ret ?_
    exact zk_retCT (.inr rfl) rfl rfl rfl hb8 rfl ⟨⟨_, _, rfl, hV⟩, (hC.no hC7).upd hU8 h2ge⟩
end Go.Proofs.Ytbcmiijollpgeaa.T
