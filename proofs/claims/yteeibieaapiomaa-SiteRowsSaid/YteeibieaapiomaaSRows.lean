import Derived.Test.YteeibieaapiomaaSRow
/- SiteRows: the walk. -/
namespace Go.Proofs.Yteeibieaapiomaa.D
open Go Go.Z Go.Proofs
set_option linter.unusedVariables false
section
variable {w0 w w' : World} {s : Nat} {q q' : SP} {E : List Ent} {I : List Bool} {m : ByteArray → Int} {N N' : List ND} {f : Bool} {R : Nat → Prop} {τ : Nat}
theorem IsS.oth (h : IsS w s q E I m N f) (hc : Chg w w' R) (hR : OneT w τ R) (h1 : τ ≠ 102) (h2 : τ ≠ 76) (h3 : τ ≠ 80) (h4 : τ ≠ 5) (h5 : τ ≠ 3) (h6 : τ ≠ 89) (h7 : τ ≠ 72) (h8 : τ ≠ 91) (h9 : τ ≠ 74) (h10 : τ ≠ 4) : IsS w' s q E I m N f :=
  ⟨h.blk.typ hc hR (Ne.symm h7), h.doc.typ hc hR h1 h2 h3 h4 h5 h6, h.mrk.typ hc hR (Ne.symm h8), h.own.typ hc hR (Ne.symm h9), h.iso.typ hc hR (Ne.symm h10), h.mp.typ hc hR⟩
theorem SF.tape (h : SF w0 w s q E I m N f) {bt : Nat} {cs : List Value} (hb : Blk w bt 30 cs) (hge : w0.heap.size ≤ bt) (hc : Chg w w' (· = bt)) : SF w0 w' s q E I m N f :=
  ⟨h.is.oth hc (fun k hk => ⟨_, hk ▸ hb⟩) (by decide) (by decide) (by decide) (by decide) (by decide) (by decide) (by decide) (by decide) (by decide) (by decide), h.inv, h.wf, h.ge, h.chg.trans hc (fun i hi hk => by rw [hk] at hi; omega)⟩
theorem Tp.site {bt : Nat} {a : Option Addr} {len cap : Nat} {zs : List Int} {at_ : Nat} (hT : Tp w0 w bt a len cap zs at_) (h : SF w0 w s q E I m N f) (hW : WrS w w' s q q') : Tp w0 w' bt a len cap zs at_ :=
  hT.oth hW.chg (h.is.noT hT.blk (by decide) (by decide) (by decide) (by decide) (by decide) (by decide) (by decide) (by decide)) h.ge
theorem Inv.rows (h : Inv E I m N) : (E.map Ent.n).getD 0 0 = 0 ∧ (∀ k, k < E.length → (E.map Ent.n).getD k 0 < N.length ∧ (N.getD ((E.map Ent.n).getD k 0) n0).kind = 1) ∧ (∀ j k, j < k → k < E.length → (E.map Ent.n).getD j 0 ≠ (E.map Ent.n).getD k 0) ∧ (E.map Ent.n).getD (E.length - 1) 0 = (lastE E).n := by
  have key : ∀ k, (E.map Ent.n).getD k 0 = (E.getD k en0).n := fun k => by
    rw [List.getD_eq_getElem?_getD, List.getD_eq_getElem?_getD, List.getElem?_map]
    cases E[k]? <;> rfl
  refine ⟨by rw [key, h.root]; rfl, fun k hk => ?_, fun j k hjk hk he => ?_, key _⟩
  · rw [key]
    have := h.el _ (getD_mem (d := en0) hk)
    exact ⟨this.1, this.2.2⟩
  · have hl : (E.map Ent.n).length = E.length := List.length_map ..
    rw [List.getD_eq_getElem?_getD, List.getD_eq_getElem?_getD, List.getElem?_eq_getElem (by omega), List.getElem?_eq_getElem (by omega)] at he
    exact List.pairwise_iff_getElem.1 h.nd j k _ _ hjk he
end
def rX : ND := ⟨1, 1, ⟨#[120]⟩, [], [], -1, []⟩
def rN (i : Nat) : List ND := rootN ++ List.replicate i rX
theorem rN_len (i : Nat) : (rN i).length = i + 1 := by simp [rN, rootN]
theorem rN_succ (i : Nat) : rN i ++ [rX] = rN (i + 1) := by unfold rN; rw [List.append_assoc, List.replicate_succ']
def nN : List ND := rN 6 ++ [⟨3, 0, ⟨#[]⟩, [], [110], -1, []⟩]
theorem nN_big : BigT nN := BigT.of (fun x hx => by
  have : nN = [⟨1, 1, ⟨#[]⟩, [], [], -1, []⟩, rX, rX, rX, rX, rX, rX, ⟨3, 0, ⟨#[]⟩, [], [110], -1, []⟩] := by rfl
  rw [this] at hx
  simp only [List.mem_cons, List.not_mem_nil, or_false] at hx
  rcases hx with rfl | rfl | rfl | rfl | rfl | rfl | rfl | rfl <;> exact ⟨by decide, by decide⟩)
theorem nN_el {n : Nat} (h : n < nN.length) (hk : (nN.getD n n0).kind = 1) : n < 7 := by
  have h8 : nN.length = 8 := by rfl
  have : n ≠ 7 := by rintro rfl; exact absurd hk (by decide)
  omega
set_option maxRecDepth 100000 in
set_option maxHeartbeats 16000000 in
theorem SiteRows_walk (a : Option Addr) (len cap : Nat) (zs : List Int) (w : World) (hrow : IsRow .i64 w a len cap zs) : Calls Try.prog 3 #[.slice a len cap] w fun e w' => e = .returned (.bool true) ∧ RowKit.Below w.heap.size w w' := by
  show Calls Try.prog 3 [Value.slice a len cap].toArray w _
  obtain ⟨hlc, hcm, _⟩ := hrow.le
  refine calls_zc (n := 129) (f := 3) (fn := Try.f3) Try.func3 rfl rfl (by simp) ?_
  refine zc_seq ?_
  refine zc_region ?_
  refine zl_pureL rfl ?_
  refine zl_nil ?_
  refine zk_seq ?_
  iterate 2 (refine zc_seq ?_)
  refine zc_region ?_
  refine zl_call (by first | exact want_none | exact want_L rfl) rfl (by decide) rfl known8_calls ?_
  rintro _ w1 ⟨rfl, hC1⟩
  refine ⟨_, rfl, ?_⟩
  refine zl_pureL rfl ?_
  refine zl_nil ?_
  refine zk_seq ?_
  refine zc_false rfl ?_
  refine zc_skip ?_
  refine zk_seq ?_
  refine zc_seq ?_
  refine zc_region ?_
  refine zl_call (by first | exact want_none | exact want_L rfl) rfl (by decide) rfl (sNew_calls hC1) ?_
  rintro _ w2 ⟨s, q, rfl, h2, _, _⟩
  refine ⟨_, rfl, ?_⟩
  refine zl_pureL rfl ?_
  refine zl_nil ?_
  refine zk_seq ?_
  iterate 2 (refine zc_seq ?_)
  refine zc_region ?_
  refine zl_pureL rfl ?_
  refine z_eqPN (by first | exact want_none | exact want_L rfl) (by decide) rfl rfl ?_
  iterate 2 (refine zl_pureL rfl ?_)
  refine zl_call (by first | exact want_none | exact want_L rfl) rfl (by decide) rfl (sDoc_calls h2.is) ?_
  rintro _ u ⟨rfl, hu⟩
  obtain rfl := hu.symm
  refine ⟨_, rfl, ?_⟩
  refine z_eqPN (by first | exact want_none | exact want_L rfl) (by decide) rfl rfl ?_
  refine zl_pureL rfl ?_
  refine zl_nil ?_
  refine zk_seq ?_
  refine zc_false rfl ?_
  refine zc_skip ?_
  refine zk_seq ?_
  refine zc_seq ?_
  refine zc_region ?_
  refine zl_pureL rfl ?_
  refine z_buildE #[.slice a len cap, .int .i64 0] (by first | exact want_none | exact want_L rfl) (by decide) rfl (by kernel_rfl) ?_
  refine z_box (by first | exact want_none | exact want_L rfl) (by decide) rfl (fun w3 bt hN3 => ?_)
  have hT3 : Tp w w3 bt a len cap zs 0 := ⟨hN3.blk, hrow, h2.chg.no hN3.chg, hN3.ge h2.chg, Nat.zero_le _⟩
  have h3 := h2.no hN3.chg
  refine zl_pureL rfl ?_
  refine zl_nil ?_
  refine zk_seq ?_
  iterate 2 (refine zc_seq ?_)
  refine zc_region ?_
  refine zl_pureL rfl ?_
  refine zl_nil ?_
  refine zk_seq ?_
  refine zc_block ?_
  refine zc_loopW (ι := Nat × SP) (fun k u => [(3, .pointer (some ⟨s, 0, none⟩)), (4, .pointer (some ⟨bt, 0, none⟩)), (5, .int .i64 (k.1 : Nat))])
    (fun k u => k.1 ≤ 6 ∧ SF w u s k.2 [en0] [true] (fun _ => 0) (rN k.1) false ∧ Tp w u bt a len cap zs 0) (fun k u => 6 - k.1) (0, q)
    ⟨Nat.zero_le _, h3, hT3⟩ ?_ ?_
  · exact ⟨rfl, rfl, rfl, trivial⟩
  rintro ⟨i, qi⟩ u ⟨hi, hS, hT⟩
  dsimp only at hi hS hT ⊢
  by_cases hlt : i < 6
  · iterate 2 (refine zc_seq ?_)
    refine zc_region ?_
    refine zl_pureL rfl ?_
    refine z_cmpB (r := true) want_none (by decide) rfl rfl rfl (iff_of_true rfl (by omega)) ?_
    refine zl_nil ?_
    refine zk_seq ?_
    refine zc_true rfl ?_
    refine zc_skip ?_
    refine zk_seq ?_
    refine zc_seq ?_
    refine zc_block ?_
    refine zc_region ?_
    refine zl_pureL rfl ?_
    refine zl_call (by first | exact want_none | exact want_L rfl) rfl (by decide) rfl (sDoc_calls hS.is) ?_
    rintro _ v ⟨rfl, hv⟩
    obtain rfl := hv.symm
    refine ⟨_, rfl, ?_⟩
    skip
    refine zl_call (by first | exact want_none | exact want_L rfl) rfl (by decide) rfl (hS.docElem (by rw [rN_len]; omega) 1 ⟨#[120]⟩ (AttrS.nil _) (Nat.zero_le _)) ?_
    rintro _ u2 ⟨rfl, q2, hq2, hW2, hS2⟩
    refine ⟨_, rfl, ?_⟩
    have e2 : rN i ++ [⟨1, 1, ⟨#[120]⟩, [], [], -1, []⟩] = rN (i + 1) := rN_succ i
    rw [e2] at hS2
    refine zl_nil ?_
    refine zk_norm_block ?_
    refine zk_seq ?_
    refine zc_region ?_
    refine zl_pureL rfl ?_
    refine z_add want_none (by decide) rfl rfl (by omega) (by omega) ?_
    refine zl_pureL rfl ?_
    refine zl_nil ?_
    exact zk_loopW (i + 1, q2) ⟨by dsimp only; omega, hS2, hT.site hS hW2⟩ (by dsimp only; omega) ⟨rfl, rfl, rfl, trivial⟩
  obtain rfl : i = 6 := by omega
  iterate 2 (refine zc_seq ?_)
  refine zc_region ?_
  refine zl_pureL rfl ?_
  refine z_cmpB (r := false) want_none (by decide) rfl rfl rfl (iff_of_false Bool.false_ne_true (by omega)) ?_
  refine zl_nil ?_
  refine zk_seq ?_
  refine zc_false rfl ?_
  refine zc_exit ?_
  iterate 2 (refine zk_exit_then ?_)
  refine zk_exit_block ?_
  refine zk_seq ?_
  refine zc_seq ?_
  refine zc_region ?_
  refine zl_pureL rfl ?_
  refine zl_call (by first | exact want_none | exact want_L rfl) rfl (by decide) rfl (sDoc_calls hS.is) ?_
  rintro _ v ⟨rfl, hv⟩
  obtain rfl := hv.symm
  refine ⟨_, rfl, ?_⟩
  skip
  refine zl_call (by first | exact want_none | exact want_L rfl) rfl (by decide) rfl (hS.docNote (by rw [rN_len]; omega) [110] (by decide)) ?_
  rintro _ u2 ⟨rfl, q2, hq2, hW2, hS2⟩
  refine ⟨_, rfl, ?_⟩
  rw [rN_len]
  have hT2 := hT.site hS hW2
  have hS2 : SF w u2 s q2 [en0] [true] (fun _ => 0) nN false := hS2
  refine zl_pureL rfl ?_
  refine zl_nil ?_
  refine zk_seq ?_
  iterate 2 (refine zc_seq ?_)
  refine zc_region ?_
  refine zl_pureL rfl ?_
  refine zl_nil ?_
  refine zk_seq ?_
  refine zc_block ?_
  refine zc_loopW (ι := Nat × SP × List Ent × List Bool × (ByteArray → Int) × Nat) (fun k u => [(3, .pointer (some ⟨s, 0, none⟩)), (4, .pointer (some ⟨bt, 0, none⟩)), (6, .int .i64 7), (7, .int .i64 (k.1 : Nat))])
    (fun k u => k.1 ≤ 40 ∧ SF w u s k.2.1 k.2.2.1 k.2.2.2.1 k.2.2.2.2.1 nN false ∧ Tp w u bt a len cap zs k.2.2.2.2.2) (fun k u => 40 - k.1) (0, q2, [en0], [true], (fun _ => 0), 0)
    ⟨Nat.zero_le _, hS2, hT2⟩ ?_ ?_
  · exact ⟨rfl, rfl, rfl, rfl, trivial⟩
  rintro ⟨i, qi, E, I, m, at_⟩ u3 ⟨hi, hS3, hT3⟩
  dsimp only at hi hS3 hT3 ⊢
  by_cases hlt : i < 40
  rotate_left
  · iterate 2 (refine zc_seq ?_)
    refine zc_region ?_
    refine zl_pureL rfl ?_
    refine z_cmpB (r := false) want_none (by decide) rfl rfl rfl (iff_of_false Bool.false_ne_true (by omega)) ?_
    iterate 2 (refine zl_pureL rfl ?_)
    refine zl_skip rfl ?_
    refine zl_pureL rfl ?_
    refine zl_nil ?_
    refine zk_seq ?_
    refine zc_false rfl ?_
    refine zc_exit ?_
    iterate 2 (refine zk_exit_then ?_)
    refine zk_exit_block ?_
    refine zk_seq ?_
    refine zc_seq ?_
    refine zc_region ?_
    refine zl_pureL rfl ?_
    refine zl_nil ?_
    refine zk_seq ?_
    refine zc_ret ?_
    exact zk_ret1 (.inr rfl) rfl rfl ⟨rfl, hS3.chg.below⟩
  iterate 2 (refine zc_seq ?_)
  refine zc_region ?_
  refine zl_pureL rfl ?_
  refine z_cmpB (r := true) want_none (by decide) rfl rfl rfl (iff_of_true rfl (by omega)) ?_
  iterate 2 (refine zl_pureL rfl ?_)
  refine zl_call (by first | exact want_none | exact want_L rfl) rfl (by decide) rfl (more_calls hT3) ?_
  rintro _ u4 ⟨rfl, hC4⟩
  refine ⟨_, rfl, ?_⟩
  have hS4 := hS3.no hC4
  have hT4 := hT3.no hC4
  by_cases hmore : at_ < len
  rotate_left
  · rw [decide_eq_false hmore]
    refine zl_pureL rfl ?_
    refine zl_nil ?_
    refine zk_seq ?_
    refine zc_false rfl ?_
    refine zc_exit ?_
    iterate 2 (refine zk_exit_then ?_)
    refine zk_exit_block ?_
    refine zk_seq ?_
    refine zc_seq ?_
    refine zc_region ?_
    refine zl_pureL rfl ?_
    refine zl_nil ?_
    refine zk_seq ?_
    refine zc_ret ?_
    exact zk_ret1 (.inr rfl) rfl rfl ⟨rfl, hS4.chg.below⟩
  rw [decide_eq_true hmore]
  refine zl_pureL rfl ?_
  refine zl_nil ?_
  refine zk_seq ?_
  refine zc_true rfl ?_
  refine zc_skip ?_
  refine zk_seq ?_
  refine zc_seq ?_
  refine zc_block ?_
  refine zc_seq ?_
  refine zc_region ?_
  refine zl_pureL rfl ?_
  refine zl_call (by first | exact want_none | exact want_L rfl) rfl (by decide) rfl (next'_calls hT4 9 (by decide) (by decide) rfl) ?_
  rintro _ u5 ⟨rfl, hT5, hC5⟩
  refine ⟨_, rfl, ?_⟩
  have hS5 := hS4.tape hT4.blk hT4.ge hC5
  refine zl_pureL rfl ?_
  refine zl_call (by first | exact want_none | exact want_L rfl) rfl (by decide) rfl (next'_calls hT5 9 (by decide) (by decide) rfl) ?_
  rintro _ u6 ⟨rfl, hT6, hC6⟩
  refine ⟨_, rfl, ?_⟩
  have hS6 := hS5.tape hT5.blk hT5.ge hC6
  iterate 2 (refine zl_pureL rfl ?_)
  refine zl_nil ?_
  refine zk_seq ?_
  iterate 2 (refine zc_seq ?_)
  refine zc_region ?_
  refine zl_pureL rfl ?_
  refine zl_call (by first | exact want_none | exact want_L rfl) rfl (by decide) rfl (next'_calls hT6 6 (by decide) (by decide) rfl) ?_
  rintro _ u7 ⟨rfl, hT7, hC7⟩
  refine ⟨_, rfl, ?_⟩
  have hS7 := hS6.tape hT6.blk hT6.ge hC7
  obtain ⟨at3, hat3⟩ : ∃ x, x = (nx zs len (nx zs len (nx zs len at_ 9).2 9).2 6).2 := ⟨_, rfl⟩
  obtain ⟨c, hc⟩ : ∃ x, x = (nx zs len (nx zs len (nx zs len at_ 9).2 9).2 6).1 := ⟨_, rfl⟩
  obtain ⟨x, hx⟩ : ∃ x, x = (nx zs len at_ 9).1 := ⟨_, rfl⟩
  obtain ⟨y, hy⟩ : ∃ x, x = (nx zs len (nx zs len at_ 9).2 9).1 := ⟨_, rfl⟩
  have hc6 : c < 6 := by rw [hc]; exact nx_lt _ _ _ 6 (by decide)
  rw [← hat3] at hT7
  rw [← hc, ← hx, ← hy]
  have hnl : nN.length ≤ 900000 := by decide
  refine zl_nil ?_
  refine zk_seq ?_
  refine zc_midTX (ι := SP × List Ent × List Bool × (ByteArray → Int)) (fun k u => SF w u s k.1 k.2.1 k.2.2.1 k.2.2.2 nN false ∧ Tp w u bt a len cap zs at3) (fun k => [(3, .pointer (some ⟨s, 0, none⟩)), (4, .pointer (some ⟨bt, 0, none⟩)), (6, .int .i64 7), (7, .int .i64 (i : Nat))]) ?_ ?_
  · have hcc : c = 0 ∨ c = 1 ∨ c = 2 ∨ c = 3 ∨ 4 ≤ c := by omega
    rcases hcc with rfl | rfl | rfl | rfl | h4
    · refine zc_block ?_
      refine zc_seq ?_
      refine zc_region ?_
      refine z_cmpB (r := true) want_none (by decide) rfl rfl rfl (iff_of_true rfl (by omega)) ?_
      refine zl_pureL rfl ?_
      refine zl_nil ?_
      refine zk_seq ?_
      refine zc_true rfl ?_
      refine zc_region ?_
      refine zl_pureL rfl ?_
      refine zl_call (by first | exact want_none | exact want_L rfl) rfl (by decide) rfl (hS7.popG hnl) ?_
      rintro _ u8 ⟨p, q', E', I', m', rfl, _, hW, hS8⟩
      refine ⟨_, rfl, ?_⟩
      have hT8 := hT7.site hS7 hW
      refine zl_nil ?_
      refine zk_norm_block ?_
      exact zk_midX (q', E', I', m') ⟨hS8, hT8⟩ ⟨rfl, rfl, rfl, rfl, trivial⟩
    · refine zc_block ?_
      refine zc_seq ?_
      refine zc_region ?_
      refine z_cmpB (r := false) want_none (by decide) rfl rfl rfl (iff_of_false Bool.false_ne_true (by omega)) ?_
      refine zl_pureL rfl ?_
      refine zl_nil ?_
      refine zk_seq ?_
      refine zc_false rfl ?_
      refine zc_seq ?_
      refine zc_region ?_
      refine z_cmpB (r := true) want_none (by decide) rfl rfl rfl (iff_of_true rfl (by omega)) ?_
      refine zl_pureL rfl ?_
      refine zl_nil ?_
      refine zk_seq ?_
      refine zc_true rfl ?_
      refine zc_region ?_
      iterate 3 (refine zl_pureL rfl ?_)
      refine zl_call (by first | exact want_none | exact want_L rfl) rfl (by decide) rfl (hS7.putG nN_big hnl _ _) ?_
      rintro _ u8 ⟨p, q', E', I', m', rfl, _, hW, hS8⟩
      refine ⟨_, rfl, ?_⟩
      have hT8 := hT7.site hS7 hW
      refine zl_nil ?_
      refine zk_norm_block ?_
      exact zk_midX (q', E', I', m') ⟨hS8, hT8⟩ ⟨rfl, rfl, rfl, rfl, trivial⟩
    · refine zc_block ?_
      refine zc_seq ?_
      refine zc_region ?_
      refine z_cmpB (r := false) want_none (by decide) rfl rfl rfl (iff_of_false Bool.false_ne_true (by omega)) ?_
      refine zl_pureL rfl ?_
      refine zl_nil ?_
      refine zk_seq ?_
      refine zc_false rfl ?_
      refine zc_seq ?_
      refine zc_region ?_
      refine z_cmpB (r := false) want_none (by decide) rfl rfl rfl (iff_of_false Bool.false_ne_true (by omega)) ?_
      refine zl_pureL rfl ?_
      refine zl_nil ?_
      refine zk_seq ?_
      refine zc_false rfl ?_
      refine zc_seq ?_
      refine zc_region ?_
      refine z_cmpB (r := true) want_none (by decide) rfl rfl rfl (iff_of_true rfl (by omega)) ?_
      refine zl_pureL rfl ?_
      refine zl_nil ?_
      refine zk_seq ?_
      refine zc_true rfl ?_
      refine zc_region ?_
      iterate 3 (refine zl_pureL rfl ?_)
      refine zl_call (by first | exact want_none | exact want_L rfl) rfl (by decide) rfl (hS7.swapG nN_big hnl _ _) ?_
      rintro _ u8 ⟨p, q', E', I', m', rfl, _, hW, hS8⟩
      refine ⟨_, rfl, ?_⟩
      have hT8 := hT7.site hS7 hW
      refine zl_nil ?_
      refine zk_norm_block ?_
      exact zk_midX (q', E', I', m') ⟨hS8, hT8⟩ ⟨rfl, rfl, rfl, rfl, trivial⟩
    · refine zc_block ?_
      refine zc_seq ?_
      refine zc_region ?_
      refine z_cmpB (r := false) want_none (by decide) rfl rfl rfl (iff_of_false Bool.false_ne_true (by omega)) ?_
      refine zl_pureL rfl ?_
      refine zl_nil ?_
      refine zk_seq ?_
      refine zc_false rfl ?_
      refine zc_seq ?_
      refine zc_region ?_
      refine z_cmpB (r := false) want_none (by decide) rfl rfl rfl (iff_of_false Bool.false_ne_true (by omega)) ?_
      refine zl_pureL rfl ?_
      refine zl_nil ?_
      refine zk_seq ?_
      refine zc_false rfl ?_
      refine zc_seq ?_
      refine zc_region ?_
      refine z_cmpB (r := false) want_none (by decide) rfl rfl rfl (iff_of_false Bool.false_ne_true (by omega)) ?_
      refine zl_pureL rfl ?_
      refine zl_nil ?_
      refine zk_seq ?_
      refine zc_false rfl ?_
      refine zc_seq ?_
      refine zc_region ?_
      refine z_cmpB (r := true) want_none (by decide) rfl rfl rfl (iff_of_true rfl (by omega)) ?_
      refine zl_pureL rfl ?_
      refine zl_nil ?_
      refine zk_seq ?_
      refine zc_true rfl ?_
      refine zc_region ?_
      iterate 2 (refine zl_pureL rfl ?_)
      refine zl_call (by first | exact want_none | exact want_L rfl) rfl (by decide) rfl (hS7.dropG hnl _) ?_
      rintro _ u8 ⟨p, q', E', I', m', rfl, _, hW, hS8⟩
      refine ⟨_, rfl, ?_⟩
      have hT8 := hT7.site hS7 hW
      refine zl_nil ?_
      refine zk_norm_block ?_
      exact zk_midX (q', E', I', m') ⟨hS8, hT8⟩ ⟨rfl, rfl, rfl, rfl, trivial⟩
    · refine zc_block ?_
      refine zc_seq ?_
      refine zc_region ?_
      refine z_cmpB (r := false) want_none (by decide) rfl rfl rfl (iff_of_false Bool.false_ne_true (by omega)) ?_
      refine zl_pureL rfl ?_
      refine zl_nil ?_
      refine zk_seq ?_
      refine zc_false rfl ?_
      refine zc_seq ?_
      refine zc_region ?_
      refine z_cmpB (r := false) want_none (by decide) rfl rfl rfl (iff_of_false Bool.false_ne_true (by omega)) ?_
      refine zl_pureL rfl ?_
      refine zl_nil ?_
      refine zk_seq ?_
      refine zc_false rfl ?_
      refine zc_seq ?_
      refine zc_region ?_
      refine z_cmpB (r := false) want_none (by decide) rfl rfl rfl (iff_of_false Bool.false_ne_true (by omega)) ?_
      refine zl_pureL rfl ?_
      refine zl_nil ?_
      refine zk_seq ?_
      refine zc_false rfl ?_
      refine zc_seq ?_
      refine zc_region ?_
      refine z_cmpB (r := false) want_none (by decide) rfl rfl rfl (iff_of_false Bool.false_ne_true (by omega)) ?_
      refine zl_pureL rfl ?_
      refine zl_nil ?_
      refine zk_seq ?_
      refine zc_false rfl ?_
      refine zc_region ?_
      iterate 2 (refine zl_pureL rfl ?_)
      refine zl_call (by first | exact want_none | exact want_L rfl) rfl (by decide) rfl (hS7.pushG nN_big hnl _) ?_
      rintro _ u8 ⟨p, q', E', I', m', rfl, _, hW, hS8⟩
      refine ⟨_, rfl, ?_⟩
      have hT8 := hT7.site hS7 hW
      refine zl_nil ?_
      refine zk_norm_block ?_
      exact zk_midX (q', E', I', m') ⟨hS8, hT8⟩ ⟨rfl, rfl, rfl, rfl, trivial⟩
  rintro ⟨q8, E8, I8, m8⟩ u8 ⟨hS8, hT8⟩
  dsimp only at hS8 hT8 ⊢
  have hel := hS8.inv.elen
  refine zc_seq ?_
  refine zc_region ?_
  refine zl_pureL rfl ?_
  refine zl_call (by first | exact want_none | exact want_L rfl) rfl (by decide) rfl (sOpen_calls hS8.is (by omega)) ?_
  rintro _ u9 ⟨vl, rfl, hI9, hC9⟩
  refine ⟨_, rfl, ?_⟩
  have hS9 := hS8.no hC9
  have hT9 := hT8.no hC9
  obtain ⟨r0, r1, r2, r3⟩ := hS8.inv.rows
  have hEp := hS8.inv.pos
  obtain ⟨n, hn⟩ : ∃ n, n = E8.length := ⟨_, rfl⟩
  obtain ⟨L, hL⟩ : ∃ L, L = E8.map Ent.n := ⟨_, rfl⟩
  have hLn : L.length = n := by rw [hL, hn, List.length_map]
  rw [← hL] at hI9 r0 r1 r2 r3
  rw [← hn] at r1 r2 r3 hEp hel
  obtain ⟨b, o, cL, hvl, hcL, hcc⟩ := RdS.some hI9.1.rd (by omega)
  rw [hLn] at hvl hcL
  subst hvl
  have hcell : ∀ k, k < n → u9.cell? ⟨b, o + k, none⟩ = some (.int .i64 ((L.getD k 0 : Nat) : Int)) := fun k hk => hcc k _ (intC_get L k (by omega))
  have g0 := hcell 0 (by omega)
  have gl := hcell (n - 1) (by omega)
  rw [r0] at g0
  rw [r3] at gl
  refine zl_pureL rfl ?_
  refine zl_nil ?_
  refine zk_seq ?_
  iterate 2 (refine zc_seq ?_)
  refine zc_draw [] (fun w' => Chg u9 w' No) (.take 0 (.take 1 (.take 2 (.take 3 (.take 4 (.take 5 (.take 6 (.take 7 (.take 8 (.take 9 (.take 10 (.take 12 (.take 13 (.take 14 (.take 15 (.take 16 (.take 17 (.all1 11 (.take 18 (.take 19 (.fin))))))))))))))))))))) (by rfl) (by kernel_rfl) (by kernel_rfl) (fun v1 hD1 _ => ⟨?_, ?_⟩)
  · exact hD1
  refine zs_take rfl (zt_pure rfl ?_)
  refine zs_rdL rfl want_none rfl (by decide) (fun _ hS => r_len rfl) ?_
  refine zs_rdL rfl want_none rfl (by decide) (fun _ hS => r_cmpB (r := false) rfl rfl rfl (iff_of_false Bool.false_ne_true (by omega))) ?_
  iterate 2 (refine zs_take rfl (zt_pure rfl ?_))
  refine zs_rdL rfl (want_L rfl) rfl (by decide) (fun _ hS => r_ia rfl rfl (by omega) (by omega)) ?_
  refine zs_rdL rfl (by first | exact want_none | exact want_L rfl) rfl (by decide) (fun _ hS => r_load1 rfl (cell_at (cell_no hS g0) (by omega))) ?_
  refine zs_rdL rfl (want_L rfl) rfl (by decide) (fun _ hS => r_cmpB (r := false) rfl rfl rfl (iff_of_false Bool.false_ne_true (by omega))) ?_
  iterate 5 (refine zs_take rfl (zt_pure rfl ?_))
  refine zs_rdL rfl (want_L rfl) rfl (by decide) (fun _ hS => r_len rfl) ?_
  refine zs_rdL rfl (want_L rfl) rfl (by decide) (fun _ hS => r_sub rfl rfl (by omega) (by omega)) ?_
  refine zs_rdL rfl (want_L rfl) rfl (by decide) (fun _ hS => r_ia rfl rfl (by omega) (by omega)) ?_
  refine zs_rdL rfl (by first | exact want_none | exact want_L rfl) rfl (by decide) (fun _ hS => r_load1 rfl (cell_at (cell_no hS gl) (by omega))) ?_
  skip
  refine zs_call rfl (by first | exact want_none | exact want_L rfl) rfl (by decide) rfl ((hS9.no hD1).top hnl) ?_
  rintro _ v2 ⟨rfl, hC2⟩
  have hD2 := hD1.no hC2
  refine ⟨_, rfl, hD2, ?_⟩
  refine zs_rdL rfl (want_L rfl) rfl (by decide) (fun _ hS => r_cmpB (r := false) rfl rfl rfl (iff_of_false Bool.false_ne_true (by omega))) ?_
  refine zs_take rfl (zt_pure rfl ?_)
  refine zs_fin ?_
  refine zk_seq ?_
  refine zc_false rfl ?_
  refine zc_skip ?_
  refine zk_seq ?_
  refine zc_seq ?_
  refine zc_region ?_
  refine zl_pureL rfl ?_
  refine zl_nil ?_
  refine zk_seq ?_
  refine zc_block ?_
  have hS10 := hS9.no hD2
  have hT10 := hT9.no hD2
  have hcell2 : ∀ k, k < n → v2.cell? ⟨b, o + k, none⟩ = some (.int .i64 ((L.getD k 0 : Nat) : Int)) := fun k hk => cell_no hD2 (hcell k hk)
  refine zc_loopW (ι := Nat) (fun k u => [(3, .pointer (some ⟨s, 0, none⟩)), (4, .pointer (some ⟨bt, 0, none⟩)), (6, .int .i64 7), (7, .int .i64 (i : Nat)), (10, .slice (some ⟨b, o, none⟩) n cL), (11, .int .i64 (k : Nat))]) (fun k u => 1 ≤ k ∧ k ≤ n ∧ Chg v2 u No) (fun k u => n - k) 1 ⟨Nat.le_refl _, by omega, Chg.refl _ _⟩ ?_ ?_
  · exact ⟨rfl, rfl, rfl, rfl, rfl, rfl, trivial⟩
  rintro k u ⟨hk1, hkn, hCk⟩
  by_cases hkl : k < n
  rotate_left
  · iterate 2 (refine zc_seq ?_)
    refine zc_region ?_
    iterate 2 (refine zl_pureL rfl ?_)
    refine z_len want_none (by decide) rfl ?_
    refine z_cmpB (r := false) want_none (by decide) rfl rfl rfl (iff_of_false Bool.false_ne_true (by omega)) ?_
    refine zl_nil ?_
    refine zk_seq ?_
    refine zc_false rfl ?_
    refine zc_exit ?_
    iterate 2 (refine zk_exit_then ?_)
    refine zk_exit_block ?_
    refine zk_norm_block ?_
    refine zk_seq ?_
    refine zc_region ?_
    refine zl_pureL rfl ?_
    refine z_add want_none (by decide) rfl rfl (by omega) (by omega) ?_
    refine zl_pureL rfl ?_
    refine zl_nil ?_
    exact zk_loopW (i + 1, q8, E8, I8, m8, at3) ⟨by dsimp only; omega, hS10.no hCk, hT10.no hCk⟩ (by dsimp only; omega) ⟨rfl, rfl, rfl, rfl, trivial⟩
  have gk := cell_no hCk (hcell2 k hkl)
  obtain ⟨lk, hlk⟩ : ∃ x, x = L.getD k 0 := ⟨_, rfl⟩
  rw [← hlk] at gk
  have hk0 : lk ≠ 0 := by have h0k := r2 0 k (by omega) hkl; rw [r0, ← hlk] at h0k; exact fun he => h0k he.symm
  have hk7 : lk < 7 := by have := r1 k hkl; rw [← hlk] at this; exact nN_el this.1 this.2
  iterate 2 (refine zc_seq ?_)
  refine zc_region ?_
  iterate 2 (refine zl_pureL rfl ?_)
  refine z_len want_none (by decide) rfl ?_
  refine z_cmpB (r := true) want_none (by decide) rfl rfl rfl (iff_of_true rfl (by omega)) ?_
  refine zl_nil ?_
  refine zk_seq ?_
  refine zc_true rfl ?_
  refine zc_skip ?_
  refine zk_seq ?_
  refine zc_seq ?_
  refine zc_block ?_
  iterate 2 (refine zc_seq ?_)
  refine zc_region ?_
  iterate 2 (refine zl_pureL rfl ?_)
  refine z_ia want_none (by decide) rfl rfl (by omega) (by omega) ?_
  refine z_load1 (by first | exact want_none | exact want_L rfl) (by decide) rfl (cell_at gk (by omega)) ?_
  refine z_cmpB (r := false) want_none (by decide) rfl rfl rfl (iff_of_false Bool.false_ne_true (by omega)) ?_
  iterate 3 (refine zl_pureL rfl ?_)
  refine z_ia (want_L rfl) (by decide) rfl rfl (by omega) (by omega) ?_
  refine z_load1 (by first | exact want_none | exact want_L rfl) (by decide) rfl (cell_at gk (by omega)) ?_
  refine zl_pureL rfl ?_
  refine z_cmpB (r := false) (want_L rfl) (by decide) rfl rfl rfl (iff_of_false Bool.false_ne_true (by omega)) ?_
  refine zl_pureL rfl ?_
  refine zl_nil ?_
  refine zk_seq ?_
  refine zc_false rfl ?_
  refine zc_skip ?_
  refine zk_seq ?_
  refine zc_seq ?_
  refine zc_region ?_
  refine zl_pureL rfl ?_
  refine zl_nil ?_
  refine zk_seq ?_
  refine zc_block ?_
  refine zc_loopW (ι := Nat) (fun j u => [(3, .pointer (some ⟨s, 0, none⟩)), (4, .pointer (some ⟨bt, 0, none⟩)), (6, .int .i64 7), (7, .int .i64 (i : Nat)), (10, .slice (some ⟨b, o, none⟩) n cL), (11, .int .i64 (k : Nat)), (12, .int .i64 (j : Nat))]) (fun j u' => j ≤ k ∧ Chg u u' No) (fun j u => k - j) 0 ⟨Nat.zero_le _, Chg.refl _ _⟩ ?_ ?_
  · exact ⟨rfl, rfl, rfl, rfl, rfl, rfl, rfl, trivial⟩
  rintro j u' ⟨hjk, hCj⟩
  by_cases hjl : j < k
  rotate_left
  · iterate 2 (refine zc_seq ?_)
    refine zc_region ?_
    iterate 2 (refine zl_pureL rfl ?_)
    refine z_cmpB (r := false) want_none (by decide) rfl rfl rfl (iff_of_false Bool.false_ne_true (by omega)) ?_
    refine zl_nil ?_
    refine zk_seq ?_
    refine zc_false rfl ?_
    refine zc_exit ?_
    iterate 2 (refine zk_exit_then ?_)
    refine zk_exit_block ?_
    refine zk_norm_block ?_
    refine zk_seq ?_
    refine zc_region ?_
    refine zl_pureL rfl ?_
    refine z_add want_none (by decide) rfl rfl (by omega) (by omega) ?_
    refine zl_pureL rfl ?_
    refine zl_nil ?_
    exact zk_loopW (k + 1) ⟨by omega, by omega, hCk.no hCj⟩ (by omega) ⟨rfl, rfl, rfl, rfl, rfl, rfl, trivial⟩
  have gj := cell_no (hCk.no hCj) (hcell2 j (by omega))
  have gk' := cell_no hCj gk
  have hne := r2 j k hjl hkl
  rw [← hlk] at hne
  obtain ⟨lj, hlj⟩ : ∃ x, x = L.getD j 0 := ⟨_, rfl⟩
  rw [← hlj] at gj hne
  iterate 2 (refine zc_seq ?_)
  refine zc_region ?_
  iterate 2 (refine zl_pureL rfl ?_)
  refine z_cmpB (r := true) want_none (by decide) rfl rfl rfl (iff_of_true rfl (by omega)) ?_
  refine zl_nil ?_
  refine zk_seq ?_
  refine zc_true rfl ?_
  refine zc_skip ?_
  refine zk_seq ?_
  refine zc_seq ?_
  refine zc_block ?_
  refine zc_seq ?_
  refine zc_draw [] (fun w' => Chg u' w' No) (.take 0 (.take 1 (.take 2 (.take 3 (.take 4 (.take 5 (.take 6 (.take 7 (.take 8 (.fin)))))))))) (by rfl) (by kernel_rfl) (by kernel_rfl) (fun v3 hD3 _ => ⟨?_, ?_⟩)
  · exact hD3
  iterate 2 (refine zs_take rfl (zt_pure rfl ?_))
  refine zs_rdL rfl want_none rfl (by decide) (fun _ hS => r_ia rfl rfl (by omega) (by omega)) ?_
  refine zs_rdL rfl (by first | exact want_none | exact want_L rfl) rfl (by decide) (fun _ hS => r_load1 rfl (cell_at (cell_no hS gj) (by omega))) ?_
  iterate 2 (refine zs_take rfl (zt_pure rfl ?_))
  refine zs_rdL rfl want_none rfl (by decide) (fun _ hS => r_ia rfl rfl (by omega) (by omega)) ?_
  refine zs_rdL rfl (by first | exact want_none | exact want_L rfl) rfl (by decide) (fun _ hS => r_load1 rfl (cell_at (cell_no hS gk') (by omega))) ?_
  refine zs_rdL rfl want_none rfl (by decide) (fun _ hS => r_cmpB (r := false) rfl rfl rfl (iff_of_false Bool.false_ne_true (by omega))) ?_
  refine zs_fin ?_
  refine zk_seq ?_
  refine zc_false rfl ?_
  refine zc_skip ?_
  refine zk_norm_block ?_
  refine zk_seq ?_
  refine zc_region ?_
  refine zl_pureL rfl ?_
  refine z_add want_none (by decide) rfl rfl (by omega) (by omega) ?_
  refine zl_pureL rfl ?_
  refine zl_nil ?_
  exact zk_loopW (j + 1) ⟨by omega, hCj.no hD3⟩ (by omega) ⟨rfl, rfl, rfl, rfl, rfl, rfl, rfl, trivial⟩
end Go.Proofs.Yteeibieaapiomaa.D
